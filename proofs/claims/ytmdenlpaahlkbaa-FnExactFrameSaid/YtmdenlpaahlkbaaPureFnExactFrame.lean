/- The law FnExactFrame, over numbers and lists: for every input that the statement speaks of the printed function answers true; conditions: those of the printed statement. -/
import Derived.Test.YtmdenlpaahlkbaaPFnExactFramex1
import Derived.Test.YtmdenlpaahlkbaaPFnExactFramex2
import Derived.Laws.BitsAllLaws
namespace Go.Proofs.Ytmdenlpaahlkbaa.Pure
open Go.RowKit Go.Proofs.Ytmdenlpaahlkbaa.PFnExactFrame Go.Proofs.YtmdenlpaahlkbaaW.PrintWords Go.Proofs.YtmdenlpaahlkbaaW.PrintLast
set_option linter.unusedVariables false
set_option linter.unusedSimpArgs false

/-! ### strings as lists of bytes -/
def mk (l : List UInt8) : ByteArray := ⟨l.toArray⟩
def nm (l : List UInt8) : List Int := l.map fun b => (b.toNat : Int)
theorem mk_of (s : ByteArray) : ∃ l, s = mk l := ⟨s.data.toList, rfl⟩
theorem mk_data (l : List UInt8) : (mk l).data.toList = l := rfl
theorem mk_toList (l : List UInt8) : (mk l).toList = l := by rw [ByteArray.toList_eq]; rfl
theorem mk_size (l : List UInt8) : (mk l).size = l.length := List.size_toArray
theorem mk_inj {a b : List UInt8} (h : mk a = mk b) : a = b := by rw [← mk_data a, h]; rfl
theorem mk_append (a b : List UInt8) : mk a ++ mk b = mk (a ++ b) := by
  apply ByteArray.ext
  rw [ByteArray.data_append]
  simp [mk]
theorem mk_extract (l : List UInt8) (i j : Nat) : (mk l).extract i j = mk ((l.drop i).take (j - i)) := by
  apply ByteArray.ext
  rw [ByteArray.data_extract]
  apply Array.ext'
  simp [mk, List.take_drop]
theorem mk_nil : (⟨#[]⟩ : ByteArray) = mk [] := rfl
theorem nm_append (a b : List UInt8) : nm (a ++ b) = nm a ++ nm b := by simp [nm]
theorem nm_length (a : List UInt8) : (nm a).length = a.length := by simp [nm]
theorem nm_nil : ([] : List Int) = nm [] := rfl
theorem strOf_nm (l : List UInt8) : strOfNums (nm l) = mk l := by
  unfold strOfNums nm mk
  rw [List.map_map]
  congr 1
  have : ∀ l : List UInt8, List.map ((fun n : Int => UInt8.ofNat n.toNat) ∘ fun b : UInt8 => (b.toNat : Int)) l = l := by
    intro l
    induction l with
    | nil => rfl
    | cons a l ih => rw [List.map_cons, ih]; simp
  rw [this]
theorem bt_mk (l : List UInt8) (n : Nat) (h : n < l.length) : bt (mk l) (n : Int) = ((l[n]).toNat : Int) := by
  unfold bt
  rw [dif_pos (show (n : Int).toNat < (mk l).size by rw [mk_size]; omega)]
  rfl
theorem w64 {x : Int} (h0 : -9223372036854775808 ≤ x) (h1 : x ≤ 9223372036854775807) : wrap64 x = x := by
  unfold wrap64
  omega
theorem nm_u8 (n : Nat) (h : n < 256) : nm [UInt8.ofNat n] = [(n : Int)] := by
  simp [nm]
  omega
theorem tmod_nat (x d : Nat) : Int.tmod (x : Int) (d : Int) = ((x % d : Nat) : Int) := by
  rw [Int.tmod_eq_emod_of_nonneg (by omega)]
  exact (Int.natCast_emod x d).symm
theorem tdiv_nat (x d : Nat) : Int.tdiv (x : Int) (d : Int) = ((x / d : Nat) : Int) := by
  rw [Int.tdiv_eq_ediv_of_nonneg (by omega)]
  exact (Int.natCast_ediv x d).symm
theorem drop_cons (l : List UInt8) (i : Nat) (h : i < l.length) : l.drop i = l[i] :: l.drop (i + 1) := List.drop_eq_getElem_cons h
/-! ### numbers in bytes -/
def vt (n : Nat) : List UInt8 := if h : 127 < n then UInt8.ofNat (n % 128 + 128) :: vt (n / 128) else [UInt8.ofNat n]
termination_by n
decreasing_by omega
theorem vt_big {n : Nat} (h : 127 < n) : vt n = UInt8.ofNat (n % 128 + 128) :: vt (n / 128) := by rw [vt, dif_pos h]
theorem vt_small {n : Nat} (h : n ≤ 127) : vt n = [UInt8.ofNat n] := by rw [vt, dif_neg (by omega)]
theorem vt_len (d : Nat) : ∀ n : Nat, n < 128 * 128 ^ d → 1 ≤ (vt n).length ∧ (vt n).length ≤ d + 1 := by
  induction d with
  | zero => intro n h; rw [vt_small (by omega)]; simp
  | succ d ih =>
    intro n h
    by_cases hn : 127 < n
    · rw [vt_big hn]
      have := ih (n / 128) (by rw [Nat.pow_succ] at h; omega)
      simp only [List.length_cons]
      omega
    · rw [vt_small (by omega)]; simp
theorem vt_len8 {n : Nat} (h : n ≤ 9223372036854775807) : 1 ≤ (vt n).length ∧ (vt n).length ≤ 9 := vt_len 8 n (by omega)
theorem vt_len5 {n : Nat} (h : n ≤ 1000000000) : 1 ≤ (vt n).length ∧ (vt n).length ≤ 5 := vt_len 4 n (by omega)
/-- What VarText answers. -/
def varOf (n : Int) : ByteArray × Bool := if 0 ≤ n ∧ n ≤ 1000000000 then (mk (vt n.toNat), true) else (mk [], false)
/-! ### the check sum -/
def crcBit (x : Nat) : Nat := if x % 2 = 1 then (x / 2) ^^^ 3558460437 else x / 2
def crcBits : Nat → Nat → Nat
  | 0, x => x
  | n + 1, x => crcBits n (crcBit x)
def crcL (x : Nat) (l : List UInt8) : Nat := l.foldl (fun x b => crcBits 8 (x ^^^ b.toNat)) x
theorem xor_lt32 {a b : Nat} (ha : a < 4294967296) (hb : b < 4294967296) : a ^^^ b < 4294967296 := Nat.xor_lt_two_pow (n := 32) ha hb
theorem crcBit_lt {x : Nat} (h : x < 4294967296) : crcBit x < 4294967296 := by
  unfold crcBit
  split
  · exact xor_lt32 (by omega) (by omega)
  · omega
theorem crcBits_lt : ∀ (n : Nat) {x : Nat}, x < 4294967296 → crcBits n x < 4294967296
  | 0, _, h => h
  | n + 1, _, h => crcBits_lt n (crcBit_lt h)
theorem crcL_cons (x : Nat) (b : UInt8) (l : List UInt8) : crcL x (b :: l) = crcL (crcBits 8 (x ^^^ b.toNat)) l := rfl
theorem crcL_lt : ∀ (l : List UInt8) {x : Nat}, x < 4294967296 → crcL x l < 4294967296
  | [], _, h => h
  | b :: l, _, h => crcL_lt l (crcBits_lt 8 (xor_lt32 h (by have := b.toNat_lt; omega)))
theorem crcL_append (x : Nat) (a b : List UInt8) : crcL x (a ++ b) = crcL (crcL x a) b := by simp [crcL, List.foldl_append]
def crc (l : List UInt8) : Nat := crcL 4294967295 l
theorem crc_lt (l : List UInt8) : crc l < 4294967296 := crcL_lt l (by omega)
/-- The sum in four bytes, the highest first. -/
def four (n : Nat) : List UInt8 := [UInt8.ofNat (n / 16777216 % 256), UInt8.ofNat (n / 65536 % 256), UInt8.ofNat (n / 256 % 256), UInt8.ofNat (n % 256)]
theorem four_nm (n : Nat) : ([((n : Int) / 16777216) % 256, ((n : Int) / 65536) % 256, ((n : Int) / 256) % 256, ((n : Int)) % 256] : List Int) = nm (four n) := by
  have e : ∀ m : Nat, (((UInt8.ofNat (m % 256)).toNat : Nat) : Int) = (m : Int) % 256 := by
    intro m
    rw [UInt8.toNat_ofNat']
    omega
  simp only [nm, four, List.map_cons, List.map_nil, e]
  congr
def frameL (l : List UInt8) : List UInt8 := vt l.length ++ four (crc l) ++ l
def frameOf (l : List UInt8) : ByteArray × Bool := if 1 ≤ (l.length : Int) ∧ (l.length : Int) ≤ 9000 then (mk (frameL l), true) else (mk [], false)
theorem four_len4 (n : Nat) : (four n).length = 4 := rfl
theorem spec_l01Var.ev0 (n : Nat) : ∀ (acc : List UInt8), n ≤ 9223372036854775807 → acc.length + (vt n).length ≤ 100 → Ev (fun k => spec_l01Var.l0 k (n : Int) (nm acc)) (mk (acc ++ vt n)) := by
  induction n using Nat.strongRecOn with
  | ind n ih =>
    intro acc hn hl
    have hal := nm_length acc
    by_cases h : 127 < n
    · have e1 : Int.tmod (n : Int) 128 = ((n % 128 : Nat) : Int) := tmod_nat n 128
      have e2 : Int.tdiv (n : Int) 128 = ((n / 128 : Nat) : Int) := tdiv_nat n 128
      rw [vt_big h] at hl ⊢
      have e3 : [(wrap64 ((Int.tmod (n : Int) 128) + 128)) % 256] = nm [UInt8.ofNat (n % 128 + 128)] := by
        rw [nm_u8 _ (by omega), e1, w64 (by omega) (by omega)]
        congr 1
        omega
      have := ih (n / 128) (by omega) (acc ++ [UInt8.ofNat (n % 128 + 128)]) (by omega) (by simp at hl ⊢; omega)
      rw [List.append_assoc, List.singleton_append] at this
      refine Ev.step (fun k => ?_) this
      show spec_l01Var.l0 (k + 1) _ _ = _
      rw [spec_l01Var.l0, if_pos (by omega), if_pos (by simp at hl; omega), e3, e2, w64 (by omega) (by omega), nm_append]
    · refine ⟨1, fun k hk => ?_⟩
      obtain ⟨k, rfl⟩ : ∃ m, k = m + 1 := ⟨k - 1, by omega⟩
      show spec_l01Var.l0 (k + 1) _ _ = _
      have e3 : [(n : Int) % 256] = nm [UInt8.ofNat n] := by
        rw [nm_u8 _ (by omega)]
        congr 1
        omega
      rw [vt_small (by omega)] at hl ⊢
      rw [spec_l01Var.l0, if_neg (by omega), if_pos (by simp at hl; omega), e3, ← nm_append, strOf_nm]
theorem spec_l01In.is (a lo hi : Int) : spec_l01In.f a lo hi = some (decide (lo ≤ a ∧ a ≤ hi)) := by
  unfold spec_l01In.f
  by_cases h : a ≥ lo
  · rw [if_pos h]
    congr 1
    simp only [decide_eq_decide]
    exact ⟨fun h' => ⟨h, h'⟩, fun h' => h'.2⟩
  · rw [if_neg h, decide_eq_false (fun h' => h h'.1)]
theorem spec_SumMore.ev1 (l : List UInt8) (i : Nat) (hi : i < l.length) (hs : l.length ≤ 140737488351232) (r : Int) (d : Nat) :
    ∀ (x j : Nat), x < 4294967296 → j + d = 8 → Ev (fun k => spec_SumMore.l0 k ((crcBits d x : Nat) : Int) (mk l) ((i + 1 : Nat) : Int)) r → Ev (fun k => spec_SumMore.l1 k (x : Int) (mk l) (i : Int) (j : Int)) r := by
  induction d with
  | zero =>
    intro x j hx hj h
    refine Ev.step (fun k => ?_) h
    show spec_SumMore.l1 (k + 1) _ _ _ _ = _
    rw [spec_SumMore.l1]
    rw [if_neg (by omega), w64 (by omega) (by omega)]
    rfl
  | succ d ih =>
    intro x j hx hj h
    refine Ev.step (fun k => ?_) (ih (crcBit x) (j + 1) (crcBit_lt hx) (by omega) h)
    show spec_SumMore.l1 (k + 1) _ _ _ _ = _
    rw [spec_SumMore.l1]
    have e1 : Int.tmod (x : Int) 2 = ((x % 2 : Nat) : Int) := tmod_nat x 2
    have e2 : Int.tdiv (x : Int) 2 = ((x / 2 : Nat) : Int) := tdiv_nat x 2
    rw [if_pos (by omega), w64 (x := (j : Int) + 1) (by omega) (by omega), e1, e2, show ((x / 2 : Nat) : Int) % 4294967296 = ((x / 2 : Nat) : Int) by omega]
    unfold crcBit
    by_cases hb : x % 2 = 1
    · rw [if_pos (by omega), if_pos hb, show (3558460437 : Int) = ((3558460437 : Nat) : Int) from rfl, u32_xor_nat _ _ (by omega) (by omega)]
      rfl
    · rw [if_neg (by omega), if_neg hb]
      rfl
theorem spec_SumMore.ev0 (l : List UInt8) (hs : l.length ≤ 140737488351232) (d : Nat) :
    ∀ (i x : Nat), x < 4294967296 → i + d = l.length → Ev (fun k => spec_SumMore.l0 k (x : Int) (mk l) (i : Int)) ((crcL x (l.drop i) : Nat) : Int) := by
  have hsz := mk_size l
  induction d with
  | zero =>
    intro i x hx hi
    refine ⟨1, fun k hk => ?_⟩
    obtain ⟨k, rfl⟩ : ∃ m, k = m + 1 := ⟨k - 1, by omega⟩
    show spec_SumMore.l0 (k + 1) _ _ _ = _
    rw [spec_SumMore.l0]
    rw [if_neg (by omega), List.drop_eq_nil_of_le (by omega)]
    rfl
  | succ d ih =>
    intro i x hx hi
    have hlt : i < l.length := by omega
    have hb : (l[i]).toNat < 256 := (l[i]).toNat_lt
    have hx2 : x ^^^ (l[i]).toNat < 4294967296 := xor_lt32 hx (by omega)
    rw [drop_cons l i hlt, crcL_cons]
    refine Ev.step (fun k => ?_) (spec_SumMore.ev1 l i hlt hs _ 8 (x ^^^ (l[i]).toNat) 0 hx2 (by omega) (ih (i + 1) _ (crcBits_lt 8 hx2) (by omega)))
    show spec_SumMore.l0 (k + 1) _ _ _ = _
    rw [spec_SumMore.l0]
    rw [if_pos (by omega), if_pos (by omega), bt_mk l i hlt, show (((l[i]).toNat : Nat) : Int) % 4294967296 = ((l[i]).toNat : Int) by omega, u32_xor_nat _ _ hx (by omega)]
    rfl
theorem spec_SumMore.ev (l : List UInt8) (hs : l.length ≤ 140737488351232) (x : Nat) (hx : x < 4294967296) : Ev (fun k => spec_SumMore.f k (x : Int) (mk l)) ((crcL x l : Nat) : Int) :=
  spec_SumMore.ev0 l hs l.length 0 x hx (by omega)
theorem spec_SumOf.ev (l : List UInt8) (hs : l.length ≤ 140737488351232) : Ev (fun k => spec_SumOf.f k (mk l)) ((crc l : Nat) : Int) := by
  obtain ⟨K, h⟩ := spec_SumMore.ev l hs 4294967295 (by omega)
  dsimp only at h
  refine ⟨K, fun k hk => ?_⟩
  show spec_SumOf.f k _ = _
  unfold spec_SumOf.f
  rw [show (4294967295 : Int) = ((4294967295 : Nat) : Int) from rfl, h k hk]
  rfl
theorem spec_l02Four.is (n : Nat) : spec_l02Four.f (n : Int) = some (mk (four n)) := by
  unfold spec_l02Four.f
  rw [four_nm, strOf_nm]
theorem spec_Frame.ev (l : List UInt8) (hs : l.length ≤ 140737488351232) : Ev (fun k => spec_Frame.f k (mk l)) (frameOf l) := by
  have hsz := mk_size l
  have hv := vt_len8 (n := l.length) (by omega)
  obtain ⟨K1, h1⟩ := spec_l01Var.ev0 l.length [] (by omega) (by simp; omega)
  obtain ⟨K2, h2⟩ := spec_SumOf.ev l hs
  dsimp only at h1 h2
  refine ⟨K1 + K2, fun k hk => ?_⟩
  show spec_Frame.f k _ = _
  unfold spec_Frame.f spec_l01Var.f frameOf
  rw [hsz, spec_l01In.is]
  by_cases h : 1 ≤ (l.length : Int) ∧ (l.length : Int) ≤ 9000
  · rw [decide_eq_true h, if_pos h, Option.bind_some, if_pos rfl, nm_nil, h1 k (by omega), Option.bind_some, h2 k (by omega), Option.bind_some, spec_l02Four.is, Option.bind_some, List.nil_append,
      if_pos (by rw [mk_size, mk_size, four_len4]; omega), mk_append, if_pos (by rw [mk_size, List.length_append, four_len4]; omega), mk_append]
    rfl
  · rw [decide_eq_false h, if_neg h]
    rfl
theorem impl_within.is (a lo hi : Int) : impl_within.f a lo hi = some (decide (lo ≤ a ∧ a ≤ hi)) := by
  unfold impl_within.f
  by_cases h : a ≥ lo
  · rw [if_pos h]
    congr 1
    simp only [decide_eq_decide]
    exact ⟨fun h' => ⟨h, h'⟩, fun h' => h'.2⟩
  · rw [if_neg h, decide_eq_false (fun h' => h h'.1)]
theorem impl_VarText.ev0 (n : Nat) : ∀ (acc : List UInt8), n ≤ 9223372036854775807 → acc.length + (vt n).length ≤ 100 → Ev (fun k => impl_VarText.l0 k (n : Int) (nm acc)) (mk (acc ++ vt n), true) := by
  induction n using Nat.strongRecOn with
  | ind n ih =>
    intro acc hn hl
    have hal := nm_length acc
    by_cases h : 127 < n
    · have e1 : Int.tmod (n : Int) 128 = ((n % 128 : Nat) : Int) := tmod_nat n 128
      have e2 : Int.tdiv (n : Int) 128 = ((n / 128 : Nat) : Int) := tdiv_nat n 128
      rw [vt_big h] at hl ⊢
      have e3 : [(wrap64 ((Int.tmod (n : Int) 128) + 128)) % 256] = nm [UInt8.ofNat (n % 128 + 128)] := by
        rw [nm_u8 _ (by omega), e1, w64 (by omega) (by omega)]
        congr 1
        omega
      have := ih (n / 128) (by omega) (acc ++ [UInt8.ofNat (n % 128 + 128)]) (by omega) (by simp at hl ⊢; omega)
      rw [List.append_assoc, List.singleton_append] at this
      refine Ev.step (fun k => ?_) this
      show impl_VarText.l0 (k + 1) _ _ = _
      rw [impl_VarText.l0, if_pos (by omega), if_pos (by simp at hl; omega), e3, e2, w64 (by omega) (by omega), nm_append]
    · refine ⟨1, fun k hk => ?_⟩
      obtain ⟨k, rfl⟩ : ∃ m, k = m + 1 := ⟨k - 1, by omega⟩
      show impl_VarText.l0 (k + 1) _ _ = _
      have e3 : [(n : Int) % 256] = nm [UInt8.ofNat n] := by
        rw [nm_u8 _ (by omega)]
        congr 1
        omega
      rw [vt_small (by omega)] at hl ⊢
      rw [impl_VarText.l0, if_neg (by omega), if_pos (by simp at hl; omega), e3, ← nm_append, strOf_nm]
theorem impl_VarText.ev (n : Int) : Ev (fun k => impl_VarText.f k n) (varOf n) := by
  unfold varOf
  by_cases h : 0 ≤ n ∧ n ≤ 1000000000
  · obtain ⟨m, rfl⟩ := Int.eq_ofNat_of_zero_le h.1
    have hl := vt_len5 (n := m) (by omega)
    obtain ⟨K, hK⟩ := impl_VarText.ev0 m [] (by omega) (by simp; omega)
    dsimp only at hK
    refine ⟨K, fun k hk => ?_⟩
    show impl_VarText.f k _ = _
    unfold impl_VarText.f
    rw [impl_within.is, decide_eq_true h, if_pos h]
    simp only [Option.bind_some, if_true]
    rw [nm_nil, hK k hk]
    rfl
  · refine ⟨0, fun k hk => ?_⟩
    show impl_VarText.f k _ = _
    unfold impl_VarText.f
    rw [impl_within.is, decide_eq_false h, if_neg h]
    rfl
theorem impl_SumMore.ev1 (l : List UInt8) (i : Nat) (hi : i < l.length) (hs : l.length ≤ 140737488351232) (r : Int) (d : Nat) :
    ∀ (x j : Nat), x < 4294967296 → j + d = 8 → Ev (fun k => impl_SumMore.l0 k ((crcBits d x : Nat) : Int) (mk l) ((i + 1 : Nat) : Int)) r → Ev (fun k => impl_SumMore.l1 k (x : Int) (mk l) (i : Int) (j : Int)) r := by
  induction d with
  | zero =>
    intro x j hx hj h
    refine Ev.step (fun k => ?_) h
    show impl_SumMore.l1 (k + 1) _ _ _ _ = _
    rw [impl_SumMore.l1]
    rw [if_neg (by omega), w64 (by omega) (by omega)]
    rfl
  | succ d ih =>
    intro x j hx hj h
    refine Ev.step (fun k => ?_) (ih (crcBit x) (j + 1) (crcBit_lt hx) (by omega) h)
    show impl_SumMore.l1 (k + 1) _ _ _ _ = _
    rw [impl_SumMore.l1]
    have e1 : Int.tmod (x : Int) 2 = ((x % 2 : Nat) : Int) := tmod_nat x 2
    have e2 : Int.tdiv (x : Int) 2 = ((x / 2 : Nat) : Int) := tdiv_nat x 2
    rw [if_pos (by omega), w64 (x := (j : Int) + 1) (by omega) (by omega), e1, e2, show ((x / 2 : Nat) : Int) % 4294967296 = ((x / 2 : Nat) : Int) by omega]
    unfold crcBit
    by_cases hb : x % 2 = 1
    · rw [if_pos (by omega), if_pos hb, show (3558460437 : Int) = ((3558460437 : Nat) : Int) from rfl, u32_xor_nat _ _ (by omega) (by omega)]
      rfl
    · rw [if_neg (by omega), if_neg hb]
      rfl
theorem impl_SumMore.ev0 (l : List UInt8) (hs : l.length ≤ 140737488351232) (d : Nat) :
    ∀ (i x : Nat), x < 4294967296 → i + d = l.length → Ev (fun k => impl_SumMore.l0 k (x : Int) (mk l) (i : Int)) ((crcL x (l.drop i) : Nat) : Int) := by
  have hsz := mk_size l
  induction d with
  | zero =>
    intro i x hx hi
    refine ⟨1, fun k hk => ?_⟩
    obtain ⟨k, rfl⟩ : ∃ m, k = m + 1 := ⟨k - 1, by omega⟩
    show impl_SumMore.l0 (k + 1) _ _ _ = _
    rw [impl_SumMore.l0]
    rw [if_neg (by omega), List.drop_eq_nil_of_le (by omega)]
    rfl
  | succ d ih =>
    intro i x hx hi
    have hlt : i < l.length := by omega
    have hb : (l[i]).toNat < 256 := (l[i]).toNat_lt
    have hx2 : x ^^^ (l[i]).toNat < 4294967296 := xor_lt32 hx (by omega)
    rw [drop_cons l i hlt, crcL_cons]
    refine Ev.step (fun k => ?_) (impl_SumMore.ev1 l i hlt hs _ 8 (x ^^^ (l[i]).toNat) 0 hx2 (by omega) (ih (i + 1) _ (crcBits_lt 8 hx2) (by omega)))
    show impl_SumMore.l0 (k + 1) _ _ _ = _
    rw [impl_SumMore.l0]
    rw [if_pos (by omega), if_pos (by omega), bt_mk l i hlt, show (((l[i]).toNat : Nat) : Int) % 4294967296 = ((l[i]).toNat : Int) by omega, u32_xor_nat _ _ hx (by omega)]
    rfl
theorem impl_SumMore.ev (l : List UInt8) (hs : l.length ≤ 140737488351232) (x : Nat) (hx : x < 4294967296) : Ev (fun k => impl_SumMore.f k (x : Int) (mk l)) ((crcL x l : Nat) : Int) :=
  impl_SumMore.ev0 l hs l.length 0 x hx (by omega)
theorem impl_SumOf.ev (l : List UInt8) (hs : l.length ≤ 140737488351232) : Ev (fun k => impl_SumOf.f k (mk l)) ((crc l : Nat) : Int) := by
  obtain ⟨K, h⟩ := impl_SumMore.ev l hs 4294967295 (by omega)
  dsimp only at h
  refine ⟨K, fun k hk => ?_⟩
  show impl_SumOf.f k _ = _
  unfold impl_SumOf.f
  rw [show (4294967295 : Int) = ((4294967295 : Nat) : Int) from rfl, h k hk]
  rfl
theorem impl_Frame.ev (l : List UInt8) (hs : l.length ≤ 140737488351232) : Ev (fun k => impl_Frame.f k (mk l)) (frameOf l) := by
  have hsz := mk_size l
  have hv := vt_len8 (n := l.length) (by omega)
  obtain ⟨K1, h1⟩ := impl_VarText.ev (l.length : Int)
  obtain ⟨K2, h2⟩ := impl_SumOf.ev l hs
  dsimp only at h1 h2
  refine ⟨K1 + K2, fun k hk => ?_⟩
  show impl_Frame.f k _ = _
  unfold impl_Frame.f frameOf
  rw [hsz, impl_within.is]
  by_cases h : 1 ≤ (l.length : Int) ∧ (l.length : Int) ≤ 9000
  · rw [decide_eq_true h, if_pos h, Option.bind_some, if_pos rfl, h1 k (by omega), Option.bind_some, h2 k (by omega), Option.bind_some, Option.bind_some, four_nm, strOf_nm]
    unfold varOf
    rw [if_pos (show 0 ≤ (l.length : Int) ∧ (l.length : Int) ≤ 1000000000 by omega), Int.toNat_natCast]
    dsimp only
    rw [if_pos (by rw [mk_size, mk_size, four_len4]; omega), mk_append, if_pos (by rw [mk_size, List.length_append, four_len4]; omega), mk_append]
    rfl
  · rw [decide_eq_false h, if_neg h]
    rfl
theorem FnExactFrame : laws_FnExactFrame.Pure := by
  intro s hs
  obtain ⟨l, rfl⟩ := mk_of s
  have hsz := mk_size l
  obtain ⟨K1, h1⟩ := spec_Frame.ev l (by omega)
  obtain ⟨K2, h2⟩ := impl_Frame.ev l (by omega)
  dsimp only at h1 h2
  refine ⟨K1 + K2, ?_⟩
  unfold laws_FnExactFrame.f
  rw [h1 _ (by omega), h2 _ (by omega)]
  by_cases hc : ((mk l).size : Int) > 1048576
  · rw [if_pos hc]
  · rw [if_neg hc]; simp

end Go.Proofs.Ytmdenlpaahlkbaa.Pure
