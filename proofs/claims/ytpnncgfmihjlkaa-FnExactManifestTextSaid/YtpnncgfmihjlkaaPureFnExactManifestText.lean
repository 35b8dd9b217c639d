/- The law FnExactManifestText, over numbers and lists: for every input that the statement speaks of the printed function answers true; conditions: those of the printed statement. -/
import Derived.Test.YtpnncgfmihjlkaaQFnExactManifestTextx1
import Derived.Test.YtpnncgfmihjlkaaQFnExactManifestTextx2
import Derived.Test.YtpnncgfmihjlkaaQFnExactManifestTextx3
import Derived.Test.YtpnncgfmihjlkaaQFnExactManifestTextx4
import Derived.Test.YtpnncgfmihjlkaaQFnExactManifestTextx5
import Derived.Laws.BitsAllLaws
import Derived.Sort.Walk0
import Derived.Lib.Bytealg
namespace Go.Proofs.Ytpnncgfmihjlkaa.Pure
open Go.RowKit Go.Proofs.Ytpnncgfmihjlkaa.QFnExactManifestText Go.Proofs.YtpnncgfmihjlkaaW.PrintWords Go.Proofs.YtpnncgfmihjlkaaW.PrintLast Go.Proofs.YtpnncgfmihjlkaaW.PrintMore
set_option linter.unusedVariables false
set_option linter.unusedSimpArgs false

/-! ### strings as lists of bytes -/
def mk (l : List UInt8) : ByteArray := ⟨l.toArray⟩
def nm (l : List UInt8) : List Int := l.map fun b => (b.toNat : Int)
theorem mk_of (s : ByteArray) : ∃ l, s = mk l := ⟨s.data.toList, rfl⟩
theorem mk_data (l : List UInt8) : (mk l).data.toList = l := rfl
theorem mk_toList (l : List UInt8) : (mk l).toList = l := by rw [ByteArray.toList_eq]; rfl
theorem mk_size (l : List UInt8) : (mk l).size = l.length := List.size_toArray
theorem mk_inj {a b : List UInt8} (h : mk a = mk b) : a = b := by rw [← mk_data a, h]; rfl
theorem mk_append (a b : List UInt8) : mk a ++ mk b = mk (a ++ b) := by
  apply ByteArray.ext
  rw [ByteArray.data_append]
  simp [mk]
theorem mk_extract (l : List UInt8) (i j : Nat) : (mk l).extract i j = mk ((l.drop i).take (j - i)) := by
  apply ByteArray.ext
  rw [ByteArray.data_extract]
  apply Array.ext'
  simp [mk, List.take_drop]
theorem mk_nil : (⟨#[]⟩ : ByteArray) = mk [] := rfl
theorem nm_append (a b : List UInt8) : nm (a ++ b) = nm a ++ nm b := by simp [nm]
theorem nm_length (a : List UInt8) : (nm a).length = a.length := by simp [nm]
theorem nm_nil : ([] : List Int) = nm [] := rfl
theorem strOf_nm (l : List UInt8) : strOfNums (nm l) = mk l := by
  unfold strOfNums nm mk
  rw [List.map_map]
  congr 1
  have : ∀ l : List UInt8, List.map ((fun n : Int => UInt8.ofNat n.toNat) ∘ fun b : UInt8 => (b.toNat : Int)) l = l := by
    intro l
    induction l with
    | nil => rfl
    | cons a l ih => rw [List.map_cons, ih]; simp
  rw [this]
theorem bt_mk (l : List UInt8) (n : Nat) (h : n < l.length) : bt (mk l) (n : Int) = ((l[n]).toNat : Int) := by
  unfold bt
  rw [dif_pos (show (n : Int).toNat < (mk l).size by rw [mk_size]; omega)]
  rfl
/-- A fact that omega doesn't look into. -/
structure Hd (p : Prop) : Prop where
  mk :: (out : p)
theorem w64 {x : Int} (h0 : -9223372036854775808 ≤ x) (h1 : x ≤ 9223372036854775807) : wrap64 x = x := by
  unfold wrap64
  omega
theorem nm_u8 (n : Nat) (h : n < 256) : nm [UInt8.ofNat n] = [(n : Int)] := by
  simp [nm]
  omega
theorem tmod_nat (x d : Nat) : Int.tmod (x : Int) (d : Int) = ((x % d : Nat) : Int) := by
  rw [Int.tmod_eq_emod_of_nonneg (by omega)]
  exact (Int.natCast_emod x d).symm
theorem tdiv_nat (x d : Nat) : Int.tdiv (x : Int) (d : Int) = ((x / d : Nat) : Int) := by
  rw [Int.tdiv_eq_ediv_of_nonneg (by omega)]
  exact (Int.natCast_ediv x d).symm
theorem drop_cons (l : List UInt8) (i : Nat) (h : i < l.length) : l.drop i = l[i] :: l.drop (i + 1) := List.drop_eq_getElem_cons h
/-- C holds at i, i + 1, .., d of them. -/
def allF (C : Nat → Bool) : Nat → Nat → Bool
  | 0, _ => true
  | d + 1, i => C i && allF C d (i + 1)
theorem allF_congr {C D : Nat → Bool} (d : Nat) : ∀ i, (∀ j, i ≤ j → j < i + d → C j = D j) → allF C d i = allF D d i := by
  induction d with
  | zero => intro i h; rfl
  | succ d ih =>
    intro i h
    simp only [allF]
    rw [h i (by omega) (by omega), ih (i + 1) (fun j h1 h2 => h j (by omega) (by omega))]
theorem allF_true {C : Nat → Bool} (d : Nat) : ∀ i, allF C d i = true ↔ ∀ j, i ≤ j → j < i + d → C j = true := by
  induction d with
  | zero => intro i; simp only [allF, true_iff]; intro j h1 h2; omega
  | succ d ih =>
    intro i
    simp only [allF, Bool.and_eq_true, ih]
    constructor
    · rintro ⟨h1, h2⟩ j h3 h4
      by_cases e : j = i
      · rw [e]; exact h1
      · exact h2 j (by omega) (by omega)
    · intro h
      exact ⟨h i (by omega) (by omega), fun j h1 h2 => h j (by omega) (by omega)⟩
theorem ev_now {α : Type} {g : Nat → Option α} {r : α} (h : ∀ k, g (k + 1) = some r) : Ev g r :=
  ⟨1, fun k hk => by obtain ⟨m, rfl⟩ : ∃ m, k = m + 1 := ⟨k - 1, by omega⟩; exact h m⟩
theorem rd_nat (l : List Int) (n : Nat) : rd l (n : Int) = l.getD n 0 := rfl
/-- Place i of the list is in lo .. hi, and above the one ahead. -/
def riseC (l : List Int) (lo hi : Int) (i : Nat) : Bool := decide (lo ≤ l.getD i 0 ∧ l.getD i 0 ≤ hi) && (decide (i = 0) || decide (l.getD (i - 1) 0 < l.getD i 0))
def confOf (l : List Int) : Bool := allF (riseC l 1 4) l.length 0 && decide (1 ≤ (l.length : Int) ∧ (l.length : Int) ≤ 4)
/-- Place i of the segments. -/
def manC (l : List Int) (next : Int) (i : Nat) : Bool := decide (0 ≤ l.getD i 0 ∧ l.getD i 0 ≤ 999) && decide (¬ l.getD i 0 ≥ next) && (decide (i = 0) || decide (¬ l.getD (i - 1) 0 ≥ l.getD i 0))
def manOf (l : List Int) (next base bt : Int) (c : List Int) : Bool :=
  allF (manC l next) l.length 0 && (decide (1 ≤ (l.length : Int) ∧ (l.length : Int) ≤ 8) && (decide (next ≤ 1000) && (decide (0 ≤ base ∧ base ≤ 100000) && (decide (0 ≤ bt ∧ bt ≤ 100000) && confOf c))))
/-! ### the check sum -/
def crcBit (x : Nat) : Nat := if x % 2 = 1 then (x / 2) ^^^ 3558460437 else x / 2
def crcBits : Nat → Nat → Nat
  | 0, x => x
  | n + 1, x => crcBits n (crcBit x)
def crcL (x : Nat) (l : List UInt8) : Nat := l.foldl (fun x b => crcBits 8 (x ^^^ b.toNat)) x
theorem xor_lt32 {a b : Nat} (ha : a < 4294967296) (hb : b < 4294967296) : a ^^^ b < 4294967296 := Nat.xor_lt_two_pow (n := 32) ha hb
theorem crcBit_lt {x : Nat} (h : x < 4294967296) : crcBit x < 4294967296 := by
  unfold crcBit
  split
  · exact xor_lt32 (by omega) (by omega)
  · omega
theorem crcBits_lt : ∀ (n : Nat) {x : Nat}, x < 4294967296 → crcBits n x < 4294967296
  | 0, _, h => h
  | n + 1, _, h => crcBits_lt n (crcBit_lt h)
theorem crcL_cons (x : Nat) (b : UInt8) (l : List UInt8) : crcL x (b :: l) = crcL (crcBits 8 (x ^^^ b.toNat)) l := rfl
theorem crcL_lt : ∀ (l : List UInt8) {x : Nat}, x < 4294967296 → crcL x l < 4294967296
  | [], _, h => h
  | b :: l, _, h => crcL_lt l (crcBits_lt 8 (xor_lt32 h (by have := b.toNat_lt; omega)))
theorem crcL_append (x : Nat) (a b : List UInt8) : crcL x (a ++ b) = crcL (crcL x a) b := by simp [crcL, List.foldl_append]
def crc (l : List UInt8) : Nat := crcL 4294967295 l
theorem crc_lt (l : List UInt8) : crc l < 4294967296 := crcL_lt l (by omega)
/-- The sum in four bytes, the highest first. -/
def four (n : Nat) : List UInt8 := [UInt8.ofNat (n / 16777216 % 256), UInt8.ofNat (n / 65536 % 256), UInt8.ofNat (n / 256 % 256), UInt8.ofNat (n % 256)]
theorem four_nm (n : Nat) : ([((n : Int) / 16777216) % 256, ((n : Int) / 65536) % 256, ((n : Int) / 256) % 256, ((n : Int)) % 256] : List Int) = nm (four n) := by
  have e : ∀ m : Nat, (((UInt8.ofNat (m % 256)).toNat : Nat) : Int) = (m : Int) % 256 := by
    intro m
    rw [UInt8.toNat_ofNat']
    omega
  simp only [nm, four, List.map_cons, List.map_nil, e]
  congr
def sealOf (l : List UInt8) : ByteArray × Bool := if l.length ≤ 20000 then (mk (l ++ four (crc l)), true) else (mk [], false)
theorem four_len (n : Nat) : (four n).length = 4 := rfl
/-! ### numbers in bytes -/
def vt (n : Nat) : List UInt8 := if h : 127 < n then UInt8.ofNat (n % 128 + 128) :: vt (n / 128) else [UInt8.ofNat n]
termination_by n
decreasing_by omega
theorem vt_big {n : Nat} (h : 127 < n) : vt n = UInt8.ofNat (n % 128 + 128) :: vt (n / 128) := by rw [vt, dif_pos h]
theorem vt_small {n : Nat} (h : n ≤ 127) : vt n = [UInt8.ofNat n] := by rw [vt, dif_neg (by omega)]
theorem vt_len (d : Nat) : ∀ n : Nat, n < 128 * 128 ^ d → 1 ≤ (vt n).length ∧ (vt n).length ≤ d + 1 := by
  induction d with
  | zero => intro n h; rw [vt_small (by omega)]; simp
  | succ d ih =>
    intro n h
    by_cases hn : 127 < n
    · rw [vt_big hn]
      have := ih (n / 128) (by rw [Nat.pow_succ] at h; omega)
      simp only [List.length_cons]
      omega
    · rw [vt_small (by omega)]; simp
theorem vt_len8 {n : Nat} (h : n ≤ 9223372036854775807) : 1 ≤ (vt n).length ∧ (vt n).length ≤ 9 := vt_len 8 n (by omega)
theorem vt_len5 {n : Nat} (h : n ≤ 1000000000) : 1 ≤ (vt n).length ∧ (vt n).length ≤ 5 := vt_len 4 n (by omega)
/-- What VarText answers. -/
def varOf (n : Int) : ByteArray × Bool := if 0 ≤ n ∧ n ≤ 1000000000 then (mk (vt n.toNat), true) else (mk [], false)
/-- The VarTexts of numbers, one behind the other. -/
def vts : List Int → List UInt8
  | [] => []
  | x :: l => vt x.toNat ++ vts l
theorem vts_append (a b : List Int) : vts (a ++ b) = vts a ++ vts b := by
  induction a with
  | nil => rfl
  | cons x a ih => simp only [List.cons_append, vts, ih, List.append_assoc]
theorem vts_len (l : List Int) (h : ∀ x ∈ l, 0 ≤ x ∧ x ≤ 1000000000) : (vts l).length ≤ 5 * l.length := by
  induction l with
  | nil => simp [vts]
  | cons x l ih =>
    have h1 := h x List.mem_cons_self
    have h2 := vt_len5 (n := x.toNat) (by omega)
    have h3 := ih (fun y hy => h y (List.mem_cons_of_mem _ hy))
    simp only [vts, List.length_append, List.length_cons]
    omega
def manT (l : List Int) (next base bt : Int) (c : List Int) : List UInt8 := vt l.length ++ vts l ++ vt next.toNat ++ vt base.toNat ++ vt bt.toNat ++ vt c.length ++ vts c
def manTextOf (l : List Int) (next base bt : Int) (c : List Int) : ByteArray × Bool := if manOf l next base bt c = true then sealOf (manT l next base bt c) else (mk [], false)
theorem allF_get {C : Nat → Bool} {n : Nat} (h : allF C n 0 = true) (i : Nat) (hi : i < n) : C i = true := (allF_true _ _).1 h i (by omega) (by omega)
theorem confOf_small {c : List Int} (h : confOf c = true) : 1 ≤ c.length ∧ c.length ≤ 4 ∧ ∀ x ∈ c, 1 ≤ x ∧ x ≤ 4 := by
  unfold confOf at h
  simp only [Bool.and_eq_true, decide_eq_true_eq] at h
  refine ⟨by omega, by omega, fun x hx => ?_⟩
  obtain ⟨i, hi, rfl⟩ := List.getElem_of_mem hx
  have := allF_get h.1 i hi
  unfold riseC at this
  simp only [Bool.and_eq_true, decide_eq_true_eq] at this
  rw [show c.getD i 0 = c[i] by simp [List.getD_eq_getElem?_getD, List.getElem?_eq_getElem hi]] at this
  omega
theorem manOf_small {l : List Int} {next base bt : Int} {c : List Int} (h : manOf l next base bt c = true) :
    1 ≤ l.length ∧ l.length ≤ 8 ∧ (∀ x ∈ l, 0 ≤ x ∧ x ≤ 999) ∧ 0 ≤ next ∧ next ≤ 1000 ∧ 0 ≤ base ∧ base ≤ 100000 ∧ 0 ≤ bt ∧ bt ≤ 100000 ∧ 1 ≤ c.length ∧ c.length ≤ 4 ∧ ∀ x ∈ c, 1 ≤ x ∧ x ≤ 4 := by
  unfold manOf at h
  simp only [Bool.and_eq_true, decide_eq_true_eq] at h
  obtain ⟨h0, h1, h2, h3, h4, h5⟩ := h
  obtain ⟨h6, h7, h8⟩ := confOf_small h5
  have hx : ∀ i (hi : i < l.length), 0 ≤ l[i] ∧ l[i] ≤ 999 ∧ l[i] < next := by
    intro i hi
    have := allF_get h0 i hi
    unfold manC at this
    simp only [Bool.and_eq_true, decide_eq_true_eq] at this
    rw [show l.getD i 0 = l[i] by simp [List.getD_eq_getElem?_getD, List.getElem?_eq_getElem hi]] at this
    omega
  have hn := hx 0 (by omega)
  refine ⟨by omega, by omega, fun x hx' => ?_, by omega, by omega, by omega, by omega, by omega, by omega, h6, h7, h8⟩
  obtain ⟨i, hi, rfl⟩ := List.getElem_of_mem hx'
  have := hx i hi
  omega

theorem spec_l01In.is (a lo hi : Int) : spec_l01In.f a lo hi = some (decide (lo ≤ a ∧ a ≤ hi)) := by
  unfold spec_l01In.f
  by_cases h : a ≥ lo
  · rw [if_pos h]
    congr 1
    simp only [decide_eq_decide]
    exact ⟨fun h' => ⟨h, h'⟩, fun h' => h'.2⟩
  · rw [if_neg h, decide_eq_false (fun h' => h h'.1)]
theorem spec_l07Rise.ev0 (l : List Int) (lw hg : Int) (hs : l.length ≤ 17592186043904) (d : Nat) : ∀ (i : Nat), i + d = l.length →
    Ev (fun k => spec_l07Rise.l0 k l lw hg (i : Int)) (allF (riseC l lw hg) d i) := by
  induction d with
  | zero =>
    intro i hi
    refine ev_now fun k => ?_
    show spec_l07Rise.l0 (k + 1) _ _ _ _ = _
    rw [spec_l07Rise.l0, if_neg (by omega)]
    rfl
  | succ d ih =>
    intro i hi
    have e0 : rd l (i : Int) = l.getD i 0 := rfl
    by_cases h1 : lw ≤ l.getD i 0 ∧ l.getD i 0 ≤ hg
    · by_cases h2 : i = 0
      · have hC : riseC l lw hg i = true := by simp only [riseC, decide_eq_true h1, decide_eq_true h2, Bool.true_or, Bool.and_true]
        simp only [allF, hC, Bool.true_and]
        refine Ev.step (fun k => ?_) (ih (i + 1) (by omega))
        show spec_l07Rise.l0 (k + 1) _ _ _ _ = spec_l07Rise.l0 k _ _ _ _
        rw [spec_l07Rise.l0, if_pos (by omega), if_pos (by omega), spec_l01In.is, e0, decide_eq_true h1]
        simp only [Option.bind_some, if_true]
        rw [if_neg (by omega), w64 (by omega) (by omega)]
        rfl
      · have e1 : rd l (wrap64 ((i : Int) - 1)) = l.getD (i - 1) 0 := by
          rw [w64 (by omega) (by omega), show (i : Int) - 1 = ((i - 1 : Nat) : Int) by omega, rd_nat]
        have e2 : wrap64 ((i : Int) - 1) = ((i - 1 : Nat) : Int) := by rw [w64 (by omega) (by omega)]; omega
        by_cases h3 : l.getD (i - 1) 0 < l.getD i 0
        · have hC : riseC l lw hg i = true := by simp only [riseC, decide_eq_true h1, decide_eq_true h3, Bool.or_true, Bool.and_true]
          simp only [allF, hC, Bool.true_and]
          refine Ev.step (fun k => ?_) (ih (i + 1) (by omega))
          show spec_l07Rise.l0 (k + 1) _ _ _ _ = spec_l07Rise.l0 k _ _ _ _
          rw [spec_l07Rise.l0, if_pos (by omega), if_pos (by omega), spec_l01In.is, e0, decide_eq_true h1]
          simp only [Option.bind_some, if_true]
          rw [if_pos (by omega), if_pos (by omega), if_pos (by omega), e1, if_neg (by omega), w64 (x := (i : Int) + 1) (by omega) (by omega)]
          rfl
        · have hC : riseC l lw hg i = false := by simp only [riseC, decide_eq_true h1, decide_eq_false h3, decide_eq_false h2, Bool.or_false, Bool.and_false]
          simp only [allF, hC, Bool.false_and]
          refine ev_now fun k => ?_
          show spec_l07Rise.l0 (k + 1) _ _ _ _ = _
          rw [spec_l07Rise.l0, if_pos (by omega), if_pos (by omega), spec_l01In.is, e0, decide_eq_true h1]
          simp only [Option.bind_some, if_true]
          rw [if_pos (by omega), if_pos (by omega), if_pos (by omega), e1, if_pos (by omega)]
    · have hC : riseC l lw hg i = false := by simp only [riseC, decide_eq_false h1, Bool.false_and]
      simp only [allF, hC, Bool.false_and]
      refine ev_now fun k => ?_
      show spec_l07Rise.l0 (k + 1) _ _ _ _ = _
      rw [spec_l07Rise.l0, if_pos (by omega), if_pos (by omega), spec_l01In.is, e0, decide_eq_false h1]
      simp
theorem spec_ConfOk.ev (l : List Int) (hs : l.length ≤ 17592186043904) : Ev (fun k => spec_ConfOk.f k l) (confOf l) := by
  obtain ⟨K, h⟩ := spec_l07Rise.ev0 l 1 4 hs l.length 0 (by omega)
  dsimp only at h
  refine ⟨K, fun k hk => ?_⟩
  show spec_ConfOk.f k _ = _
  unfold spec_ConfOk.f spec_l07Rise.f confOf
  rw [spec_l01In.is]
  by_cases hc : 1 ≤ (l.length : Int) ∧ (l.length : Int) ≤ 4
  · rw [decide_eq_true hc]
    simp only [Option.bind_some, if_true]
    have := h k hk
    rw [show ((0 : Nat) : Int) = 0 from rfl] at this
    rw [this]
    simp
  · rw [decide_eq_false hc]
    simp
theorem rise_man (l : List Int) (next : Int) (h0 : 0 ≤ next) (h1 : next ≤ 1000) : allF (riseC l 0 (next - 1)) l.length 0 = allF (manC l next) l.length 0 := by
  refine allF_congr l.length 0 fun j _ _ => ?_
  unfold riseC manC
  generalize l.getD j 0 = x
  generalize l.getD (j - 1) 0 = y
  by_cases h2 : 0 ≤ x ∧ x ≤ next - 1
  · rw [decide_eq_true h2, decide_eq_true (show 0 ≤ x ∧ x ≤ 999 by omega), decide_eq_true (show ¬ x ≥ next by omega), Bool.true_and, Bool.true_and, Bool.true_and]
    congr 1
    rw [decide_eq_decide]
    omega
  · rw [decide_eq_false h2, Bool.false_and]
    by_cases h3 : 0 ≤ x ∧ x ≤ 999
    · rw [decide_eq_false (show ¬ ¬ x ≥ next by omega), Bool.and_false, Bool.false_and]
    · rw [decide_eq_false h3, Bool.false_and, Bool.false_and]
theorem man_neg (l : List Int) (next : Int) (h0 : ¬ 0 ≤ next) (hl : 1 ≤ l.length) : allF (manC l next) l.length 0 = false := by
  obtain ⟨d, hd⟩ : ∃ d, l.length = d + 1 := ⟨l.length - 1, by omega⟩
  rw [hd, allF]
  have : manC l next 0 = false := by
    unfold manC
    by_cases h3 : 0 ≤ l.getD 0 0 ∧ l.getD 0 0 ≤ 999
    · rw [decide_eq_false (show ¬ ¬ l.getD 0 0 ≥ next by omega), Bool.and_false, Bool.false_and]
    · rw [decide_eq_false h3, Bool.false_and, Bool.false_and]
  rw [this, Bool.false_and]
theorem spec_ManifestOk.ev (l : List Int) (next base bt : Int) (c : List Int) (hs : l.length ≤ 1048576) (hc : c.length ≤ 1048576) : Ev (fun k => spec_ManifestOk.f k l next base bt c) (manOf l next base bt c) := by
  obtain ⟨K1, h1⟩ := spec_l07Rise.ev0 l 0 (next - 1) (by omega) l.length 0 (by omega)
  obtain ⟨K2, h2⟩ := spec_ConfOk.ev c (by omega)
  dsimp only at h1 h2
  refine ⟨K1 + K2, fun k hk => ?_⟩
  show spec_ManifestOk.f k _ _ _ _ _ = _
  unfold spec_ManifestOk.f spec_l07Rise.f manOf
  by_cases g1 : 1 ≤ (l.length : Int) ∧ (l.length : Int) ≤ 8
  · by_cases g2 : 0 ≤ next ∧ next ≤ 1000
    · have := h1 k (by omega)
      rw [show ((0 : Nat) : Int) = 0 from rfl, rise_man l next g2.1 g2.2] at this
      rw [w64 (x := next - 1) (by omega) (by omega), this, h2 k (by omega)]
      simp only [spec_l01In.is, Option.bind_some]
      generalize allF (manC l next) l.length 0 = b
      have g2' : next ≤ 1000 := g2.2
      by_cases h3 : 0 ≤ base ∧ base ≤ 100000 <;> by_cases h4 : 0 ≤ bt ∧ bt ≤ 100000 <;> cases b <;> simp [g1, g2, g2', h3, h4]
    · rw [spec_l01In.is, spec_l01In.is, decide_eq_true g1, decide_eq_false g2]
      simp only [Option.bind_some, if_true]
      rw [if_neg (by simp)]
      by_cases g3 : next ≤ 1000
      · rw [man_neg l next (by omega) (by omega), Bool.false_and]
      · rw [decide_eq_false g3]
        simp
  · rw [spec_l01In.is, decide_eq_false g1]
    simp
theorem spec_l01Var.ev0 (n : Nat) : ∀ (acc : List UInt8), n ≤ 9223372036854775807 → acc.length + (vt n).length ≤ 100 → Ev (fun k => spec_l01Var.l0 k (n : Int) (nm acc)) (mk (acc ++ vt n)) := by
  induction n using Nat.strongRecOn with
  | ind n ih =>
    intro acc hn hl
    have hal := nm_length acc
    by_cases h : 127 < n
    · have e1 : Int.tmod (n : Int) 128 = ((n % 128 : Nat) : Int) := tmod_nat n 128
      have e2 : Int.tdiv (n : Int) 128 = ((n / 128 : Nat) : Int) := tdiv_nat n 128
      rw [vt_big h] at hl ⊢
      have e3 : [(wrap64 ((Int.tmod (n : Int) 128) + 128)) % 256] = nm [UInt8.ofNat (n % 128 + 128)] := by
        rw [nm_u8 _ (by omega), e1, w64 (by omega) (by omega)]
        congr 1
        omega
      have := ih (n / 128) (by omega) (acc ++ [UInt8.ofNat (n % 128 + 128)]) (by omega) (by simp at hl ⊢; omega)
      rw [List.append_assoc, List.singleton_append] at this
      refine Ev.step (fun k => ?_) this
      show spec_l01Var.l0 (k + 1) _ _ = _
      rw [spec_l01Var.l0, if_pos (by omega), if_pos (by simp at hl; omega), e3, e2, w64 (by omega) (by omega), nm_append]
    · refine ⟨1, fun k hk => ?_⟩
      obtain ⟨k, rfl⟩ : ∃ m, k = m + 1 := ⟨k - 1, by omega⟩
      show spec_l01Var.l0 (k + 1) _ _ = _
      have e3 : [(n : Int) % 256] = nm [UInt8.ofNat n] := by
        rw [nm_u8 _ (by omega)]
        congr 1
        omega
      rw [vt_small (by omega)] at hl ⊢
      rw [spec_l01Var.l0, if_neg (by omega), if_pos (by simp at hl; omega), e3, ← nm_append, strOf_nm]
theorem spec_SumMore.ev1 (l : List UInt8) (i : Nat) (hi : i < l.length) (hs : l.length ≤ 140737488351232) (r : Int) (d : Nat) :
    ∀ (x j : Nat), x < 4294967296 → j + d = 8 → Ev (fun k => spec_SumMore.l0 k ((crcBits d x : Nat) : Int) (mk l) ((i + 1 : Nat) : Int)) r → Ev (fun k => spec_SumMore.l1 k (x : Int) (mk l) (i : Int) (j : Int)) r := by
  induction d with
  | zero =>
    intro x j hx hj h
    refine Ev.step (fun k => ?_) h
    show spec_SumMore.l1 (k + 1) _ _ _ _ = _
    rw [spec_SumMore.l1]
    rw [if_neg (by omega), w64 (by omega) (by omega)]
    rfl
  | succ d ih =>
    intro x j hx hj h
    refine Ev.step (fun k => ?_) (ih (crcBit x) (j + 1) (crcBit_lt hx) (by omega) h)
    show spec_SumMore.l1 (k + 1) _ _ _ _ = _
    rw [spec_SumMore.l1]
    have e1 : Int.tmod (x : Int) 2 = ((x % 2 : Nat) : Int) := tmod_nat x 2
    have e2 : Int.tdiv (x : Int) 2 = ((x / 2 : Nat) : Int) := tdiv_nat x 2
    rw [if_pos (by omega), w64 (x := (j : Int) + 1) (by omega) (by omega), e1, e2, show ((x / 2 : Nat) : Int) % 4294967296 = ((x / 2 : Nat) : Int) by omega]
    unfold crcBit
    by_cases hb : x % 2 = 1
    · rw [if_pos (by omega), if_pos hb, show (3558460437 : Int) = ((3558460437 : Nat) : Int) from rfl, u32_xor_nat _ _ (by omega) (by omega)]
      rfl
    · rw [if_neg (by omega), if_neg hb]
      rfl
theorem spec_SumMore.ev0 (l : List UInt8) (hs : l.length ≤ 140737488351232) (d : Nat) :
    ∀ (i x : Nat), x < 4294967296 → i + d = l.length → Ev (fun k => spec_SumMore.l0 k (x : Int) (mk l) (i : Int)) ((crcL x (l.drop i) : Nat) : Int) := by
  have hsz := mk_size l
  induction d with
  | zero =>
    intro i x hx hi
    refine ⟨1, fun k hk => ?_⟩
    obtain ⟨k, rfl⟩ : ∃ m, k = m + 1 := ⟨k - 1, by omega⟩
    show spec_SumMore.l0 (k + 1) _ _ _ = _
    rw [spec_SumMore.l0]
    rw [if_neg (by omega), List.drop_eq_nil_of_le (by omega)]
    rfl
  | succ d ih =>
    intro i x hx hi
    have hlt : i < l.length := by omega
    have hb : (l[i]).toNat < 256 := (l[i]).toNat_lt
    have hx2 : x ^^^ (l[i]).toNat < 4294967296 := xor_lt32 hx (by omega)
    rw [drop_cons l i hlt, crcL_cons]
    refine Ev.step (fun k => ?_) (spec_SumMore.ev1 l i hlt hs _ 8 (x ^^^ (l[i]).toNat) 0 hx2 (by omega) (ih (i + 1) _ (crcBits_lt 8 hx2) (by omega)))
    show spec_SumMore.l0 (k + 1) _ _ _ = _
    rw [spec_SumMore.l0]
    rw [if_pos (by omega), if_pos (by omega), bt_mk l i hlt, show (((l[i]).toNat : Nat) : Int) % 4294967296 = ((l[i]).toNat : Int) by omega, u32_xor_nat _ _ hx (by omega)]
    rfl
theorem spec_SumMore.ev (l : List UInt8) (hs : l.length ≤ 140737488351232) (x : Nat) (hx : x < 4294967296) : Ev (fun k => spec_SumMore.f k (x : Int) (mk l)) ((crcL x l : Nat) : Int) :=
  spec_SumMore.ev0 l hs l.length 0 x hx (by omega)
theorem spec_SumOf.ev (l : List UInt8) (hs : l.length ≤ 140737488351232) : Ev (fun k => spec_SumOf.f k (mk l)) ((crc l : Nat) : Int) := by
  obtain ⟨K, h⟩ := spec_SumMore.ev l hs 4294967295 (by omega)
  dsimp only at h
  refine ⟨K, fun k hk => ?_⟩
  show spec_SumOf.f k _ = _
  unfold spec_SumOf.f
  rw [show (4294967295 : Int) = ((4294967295 : Nat) : Int) from rfl, h k hk]
  rfl
theorem spec_l02Four.is (n : Nat) : spec_l02Four.f (n : Int) = some (mk (four n)) := by
  unfold spec_l02Four.f
  rw [four_nm, strOf_nm]
theorem spec_Sealed.ev (l : List UInt8) (hs : l.length ≤ 140737488351232) : Ev (fun k => spec_Sealed.f k (mk l)) (sealOf l) := by
  have hsz := mk_size l
  unfold sealOf
  obtain ⟨K, h⟩ := spec_SumOf.ev l hs
  dsimp only at h
  refine ⟨K, fun k hk => ?_⟩
  show spec_Sealed.f k _ = _
  unfold spec_Sealed.f
  by_cases hc : l.length ≤ 20000
  · rw [if_neg (by omega), if_pos hc, h k hk, Option.bind_some, spec_l02Four.is, Option.bind_some, if_pos (by rw [mk_size, mk_size, four_len]; omega), mk_append]
  · rw [if_pos (by omega), if_neg hc]
    rfl
theorem spec_ManifestText.ev1 (l : List Int) (next base bt : Int) (c : List Int) (hc : c.length ≤ 4) (hx : ∀ x ∈ c, 1 ≤ x ∧ x ≤ 4) (d : Nat) : ∀ (i : Nat) (acc : List UInt8), i + d = c.length → acc.length ≤ 200 + 5 * i →
    Ev (fun k => spec_ManifestText.l1 k (mk acc) (i : Int) l next base bt c) (sealOf (acc ++ vts (c.drop i))) := by
  induction d with
  | zero =>
    intro i acc hi ha
    obtain ⟨K, h⟩ := spec_Sealed.ev acc (by omega)
    dsimp only at h
    refine ⟨K + 1, fun k hk => ?_⟩
    obtain ⟨k, rfl⟩ : ∃ m, k = m + 1 := ⟨k - 1, by omega⟩
    show spec_ManifestText.l1 (k + 1) _ _ _ _ _ _ _ = _
    rw [spec_ManifestText.l1, if_neg (by omega), h k (by omega), List.drop_eq_nil_of_le (by omega), vts, List.append_nil]
    rfl
  | succ d ih =>
    intro i acc hi ha
    have hlt : i < c.length := by omega
    have hm := hx c[i] (List.getElem_mem hlt)
    have e0 : rd c (i : Int) = c[i] := by rw [rd_nat]; simp [List.getD_eq_getElem?_getD, List.getElem?_eq_getElem hlt]
    obtain ⟨n, hn⟩ := Int.eq_ofNat_of_zero_le (show 0 ≤ c[i] by omega)
    have g := vt_len5 (n := n) (by omega)
    obtain ⟨K1, h1⟩ := spec_l01Var.ev0 n [] (by omega) (by simp; omega)
    obtain ⟨K2, h2⟩ := ih (i + 1) (acc ++ vt n) (by omega) (by rw [List.length_append]; omega)
    dsimp only at h1 h2
    refine ⟨K1 + K2 + 1, fun k hk => ?_⟩
    obtain ⟨k, rfl⟩ : ∃ m, k = m + 1 := ⟨k - 1, by omega⟩
    show spec_ManifestText.l1 (k + 1) _ _ _ _ _ _ _ = _
    unfold spec_ManifestText.l1 spec_l01Var.f
    rw [if_pos (by omega), if_pos (by omega), e0, hn, nm_nil, h1 k (by omega), Option.bind_some, if_pos (by rw [mk_size, mk_size]; simp only [List.nil_append]; omega), mk_append, List.nil_append, w64 (by omega) (by omega)]
    have := h2 k (by omega)
    rw [List.drop_eq_getElem_cons hlt, vts, hn, Int.toNat_natCast, ← List.append_assoc]
    exact this
theorem spec_ManifestText.ev0 (l : List Int) (next base bt : Nat) (c : List Int) (hl : l.length ≤ 8) (hx : ∀ x ∈ l, 0 ≤ x ∧ x ≤ 999) (hn : next ≤ 1000) (hb : base ≤ 100000) (ht : bt ≤ 100000) (hc : c.length ≤ 4) (hy : ∀ x ∈ c, 1 ≤ x ∧ x ≤ 4) (d : Nat) : ∀ (i : Nat) (acc : List UInt8), i + d = l.length → acc.length ≤ 10 + 5 * i →
    Ev (fun k => spec_ManifestText.l0 k (mk acc) (i : Int) l next base bt c) (sealOf (acc ++ vts (l.drop i) ++ vt next ++ vt base ++ vt bt ++ vt c.length ++ vts c)) := by
  induction d with
  | zero =>
    intro i acc hi ha
    have g1 := vt_len5 (n := next) (by omega)
    have g2 := vt_len5 (n := base) (by omega)
    have g3 := vt_len5 (n := bt) (by omega)
    have g4 := vt_len5 (n := c.length) (by omega)
    obtain ⟨K1, h1⟩ := spec_l01Var.ev0 next [] (by omega) (by simp; omega)
    obtain ⟨K2, h2⟩ := spec_l01Var.ev0 base [] (by omega) (by simp; omega)
    obtain ⟨K3, h3⟩ := spec_l01Var.ev0 bt [] (by omega) (by simp; omega)
    obtain ⟨K4, h4⟩ := spec_l01Var.ev0 c.length [] (by omega) (by simp; omega)
    obtain ⟨K5, h5⟩ := spec_ManifestText.ev1 l next base bt c hc hy c.length 0 (acc ++ vt next ++ vt base ++ vt bt ++ vt c.length) (by omega) (by simp only [List.length_append]; omega)
    dsimp only at h1 h2 h3 h4 h5
    refine ⟨K1 + K2 + K3 + K4 + K5 + 1, fun k hk => ?_⟩
    obtain ⟨k, rfl⟩ : ∃ m, k = m + 1 := ⟨k - 1, by omega⟩
    show spec_ManifestText.l0 (k + 1) _ _ _ _ _ _ _ = _
    have ez : ∀ p q : List UInt8, p.length ≤ 20000 → q.length ≤ 20000 → (mk p).size + (mk q).size ≤ 9223372036854775807 := fun p q hp hq => by rw [mk_size, mk_size]; omega
    have h5' := h5 k (by omega)
    unfold spec_ManifestText.l0 spec_l01Var.f
    rw [if_neg (by omega), nm_nil, h1 k (by omega), h2 k (by omega), h3 k (by omega), h4 k (by omega)]
    simp only [Option.bind_some, List.nil_append, mk_append]
    rw [if_pos (ez _ _ (by omega) (by omega)), if_pos (ez _ _ (by simp only [List.length_append]; omega) (by omega)), if_pos (ez _ _ (by simp only [List.length_append]; omega) (by omega)), if_pos (ez _ _ (by simp only [List.length_append]; omega) (by omega)), List.drop_eq_nil_of_le (by omega), vts, List.append_nil]
    exact h5'
  | succ d ih =>
    intro i acc hi ha
    have hlt : i < l.length := by omega
    have hm := hx l[i] (List.getElem_mem hlt)
    have e0 : rd l (i : Int) = l[i] := by rw [rd_nat]; simp [List.getD_eq_getElem?_getD, List.getElem?_eq_getElem hlt]
    obtain ⟨n, hn⟩ := Int.eq_ofNat_of_zero_le (show 0 ≤ l[i] by omega)
    have g := vt_len5 (n := n) (by omega)
    obtain ⟨K1, h1⟩ := spec_l01Var.ev0 n [] (by omega) (by simp; omega)
    obtain ⟨K2, h2⟩ := ih (i + 1) (acc ++ vt n) (by omega) (by rw [List.length_append]; omega)
    dsimp only at h1 h2
    refine ⟨K1 + K2 + 1, fun k hk => ?_⟩
    obtain ⟨k, rfl⟩ : ∃ m, k = m + 1 := ⟨k - 1, by omega⟩
    show spec_ManifestText.l0 (k + 1) _ _ _ _ _ _ _ = _
    unfold spec_ManifestText.l0 spec_l01Var.f
    rw [if_pos (by omega), if_pos (by omega), e0, hn, nm_nil, h1 k (by omega), Option.bind_some, if_pos (by rw [mk_size, mk_size]; simp only [List.nil_append]; omega), mk_append, List.nil_append, w64 (by omega) (by omega)]
    have := h2 k (by omega)
    rw [List.drop_eq_getElem_cons hlt, vts, hn, Int.toNat_natCast, ← List.append_assoc acc]
    exact this
theorem spec_ManifestText.ev (l : List Int) (next base bt : Int) (c : List Int) (hs : l.length ≤ 1048576) (hc : c.length ≤ 1048576) : Ev (fun k => spec_ManifestText.f k l next base bt c) (manTextOf l next base bt c) := by
  obtain ⟨K0, h0⟩ := spec_ManifestOk.ev l next base bt c hs hc
  dsimp only at h0
  unfold manTextOf
  by_cases hb : manOf l next base bt c = true
  · obtain ⟨a1, a2, a3, a4, a5, a6, a7, a8, a9, b1, b2, b3⟩ := manOf_small hb
    obtain ⟨next, rfl⟩ := Int.eq_ofNat_of_zero_le a4
    obtain ⟨base, rfl⟩ := Int.eq_ofNat_of_zero_le a6
    obtain ⟨bt, rfl⟩ := Int.eq_ofNat_of_zero_le a8
    have g := vt_len5 (n := l.length) (by omega)
    obtain ⟨K1, h1⟩ := spec_l01Var.ev0 l.length [] (by omega) (by simp; omega)
    obtain ⟨K2, h2⟩ := spec_ManifestText.ev0 l next base bt c a2 a3 (by omega) (by omega) (by omega) b2 b3 l.length 0 (vt l.length) (by omega) (by omega)
    dsimp only at h1 h2
    refine ⟨K0 + K1 + K2, fun k hk => ?_⟩
    show spec_ManifestText.f k _ _ _ _ _ = _
    unfold spec_ManifestText.f spec_l01Var.f
    rw [h0 k (by omega), Option.bind_some, if_pos hb, nm_nil, h1 k (by omega), Option.bind_some, List.nil_append, if_pos hb]
    exact h2 k (by omega)
  · refine ⟨K0, fun k hk => ?_⟩
    show spec_ManifestText.f k _ _ _ _ _ = _
    unfold spec_ManifestText.f
    rw [h0 k (by omega), Option.bind_some, if_neg hb, if_neg hb]
    rfl

theorem bytesOf_mk (l : List UInt8) : bytesOf (mk l) = nm l := by
  unfold bytesOf nm mk
  simp
theorem impl_vars.ev0 (l : List Int) (hl : l.length ≤ 1000) (hx : ∀ x ∈ l, 0 ≤ x ∧ x ≤ 1000000000) (hv : ∀ n : Int, Ev (fun k => impl_VarText.f k n) (varOf n)) (d : Nat) : ∀ (i : Nat) (acc : List UInt8), i + d = l.length → acc.length ≤ 5 * i →
    Ev (fun k => impl_vars.l0 k (nm acc) l (l.length : Int) (i : Int)) (mk (acc ++ vts (l.drop i)), true) := by
  induction d with
  | zero =>
    intro i acc hi ha
    refine ev_now fun k => ?_
    show impl_vars.l0 (k + 1) _ _ _ _ = _
    rw [impl_vars.l0, if_neg (by omega), List.drop_eq_nil_of_le (by omega), vts, List.append_nil, strOf_nm]
  | succ d ih =>
    intro i acc hi ha
    have hlt : i < l.length := by omega
    have hm := hx l[i] (List.getElem_mem hlt)
    have e0 : rd l (i : Int) = l[i] := by show l.getD i 0 = _; simp [List.getD_eq_getElem?_getD, List.getElem?_eq_getElem hlt]
    obtain ⟨n, hn⟩ := Int.eq_ofNat_of_zero_le (show 0 ≤ l[i] by omega)
    have g := vt_len5 (n := n) (by omega)
    obtain ⟨K1, h1⟩ := hv n
    obtain ⟨K2, h2⟩ := ih (i + 1) (acc ++ vt n) (by omega) (by rw [List.length_append]; omega)
    dsimp only at h1 h2
    unfold varOf at h1
    refine ⟨K1 + K2 + 1, fun k hk => ?_⟩
    obtain ⟨k, rfl⟩ : ∃ m, k = m + 1 := ⟨k - 1, by omega⟩
    show impl_vars.l0 (k + 1) _ _ _ _ = _
    have h1' := h1 k (by omega)
    rw [if_pos (by omega), Int.toNat_natCast] at h1'
    rw [impl_vars.l0, if_pos (by omega), if_pos (by omega), if_pos (by omega), e0, hn, h1', Option.bind_some, if_pos rfl, if_pos (by rw [nm_length, mk_size]; omega), bytesOf_mk, ← nm_append, w64 (by omega) (by omega)]
    have := h2 k (by omega)
    rw [List.drop_eq_getElem_cons hlt, vts, hn, Int.toNat_natCast, ← List.append_assoc]
    exact this
theorem slices_Concat_int_int.ev0 (ls x0 : List (List Int)) (N : Nat) (hN : N ≤ 1048576) (hl : ls.length ≤ 1000) (ht : ls.flatten.length = N) (r : List Int) (h1 : Ev (fun k => (slices_Grow_int_int.f ([] : List Int) (N : Int)).bind fun t => slices_Concat_int_int.l1 k t x0 (x0.length : Int) 0) r) (d : Nat) : ∀ (i n : Nat), i + d = ls.length → n + ((ls.drop i).flatten).length = N →
    Ev (fun k => slices_Concat_int_int.l0 k x0 (n : Int) ls (ls.length : Int) (i : Int)) r := by
  induction d with
  | zero =>
    intro i n hi hn
    rw [List.drop_eq_nil_of_le (by omega)] at hn
    obtain rfl : n = N := by simpa using hn
    obtain ⟨K, h⟩ := h1
    dsimp only at h
    refine ⟨K + 1, fun k hk => ?_⟩
    obtain ⟨k, rfl⟩ : ∃ m, k = m + 1 := ⟨k - 1, by omega⟩
    show slices_Concat_int_int.l0 (k + 1) _ _ _ _ _ = _
    rw [slices_Concat_int_int.l0, if_neg (by omega)]
    exact h k (by omega)
  | succ d ih =>
    intro i n hi hn
    have hlt : i < ls.length := by omega
    have e0 : rd_L2 ls (i : Int) = ls[i] := by show ls.getD i [] = _; simp [List.getD_eq_getElem?_getD, List.getElem?_eq_getElem hlt]
    rw [List.drop_eq_getElem_cons hlt, List.flatten_cons, List.length_append] at hn
    have e1 : Hd (wrap64 ((n : Int) + (ls[i].length : Int)) = ((n + ls[i].length : Nat) : Int)) := Hd.mk <| by rw [w64 (by omega) (by omega)]; omega
    have e2 : Hd (wrap64 ((i : Int) + 1) = ((i + 1 : Nat) : Int)) := Hd.mk <| by rw [w64 (by omega) (by omega)]; omega
    refine Ev.step (fun k => ?_) (ih (i + 1) (n + ls[i].length) (by omega) (by omega))
    show slices_Concat_int_int.l0 (k + 1) _ _ _ _ _ = slices_Concat_int_int.l0 k _ _ _ _ _
    rw [slices_Concat_int_int.l0, if_pos (by omega), if_pos (by omega), if_pos (by omega), e0, e1.out, e2.out, if_neg (by omega)]
theorem slices_Concat_int_int.ev1 (ls : List (List Int)) (hl : ls.length ≤ 1000) (d : Nat) : ∀ (i : Nat) (acc : List Int), i + d = ls.length → acc.length + ((ls.drop i).flatten).length ≤ 1048576 →
    Ev (fun k => slices_Concat_int_int.l1 k acc ls (ls.length : Int) (i : Int)) (acc ++ (ls.drop i).flatten) := by
  induction d with
  | zero =>
    intro i acc hi hn
    refine ev_now fun k => ?_
    show slices_Concat_int_int.l1 (k + 1) _ _ _ _ = _
    rw [slices_Concat_int_int.l1, if_neg (by omega), List.drop_eq_nil_of_le (by omega), List.flatten_nil, List.append_nil]
  | succ d ih =>
    intro i acc hi hn
    have hlt : i < ls.length := by omega
    have e0 : rd_L2 ls (i : Int) = ls[i] := by show ls.getD i [] = _; simp [List.getD_eq_getElem?_getD, List.getElem?_eq_getElem hlt]
    rw [List.drop_eq_getElem_cons hlt, List.flatten_cons, List.length_append] at hn
    have e2 : Hd (wrap64 ((i : Int) + 1) = ((i + 1 : Nat) : Int)) := Hd.mk <| by rw [w64 (by omega) (by omega)]; omega
    rw [List.drop_eq_getElem_cons hlt, List.flatten_cons, ← List.append_assoc]
    refine Ev.step (fun k => ?_) (ih (i + 1) (acc ++ ls[i]) (by omega) (by rw [List.length_append]; omega))
    show slices_Concat_int_int.l1 (k + 1) _ _ _ _ = slices_Concat_int_int.l1 k _ _ _ _
    rw [slices_Concat_int_int.l1, if_pos (by omega), if_pos (by omega), if_pos (by omega), e0, e2.out, if_pos (by omega)]
theorem slices_Concat_int_int.ev (ls : List (List Int)) (hl : ls.length ≤ 1000) (h0 : 0 < ls.flatten.length) (h1 : ls.flatten.length ≤ 1048576) : Ev (fun k => slices_Concat_int_int.f k ls) ls.flatten := by
  obtain ⟨K, h⟩ := slices_Concat_int_int.ev1 ls hl ls.length 0 [] (by omega) (by simpa using h1)
  dsimp only at h
  obtain ⟨K2, h2⟩ := slices_Concat_int_int.ev0 ls ls ls.flatten.length h1 hl rfl ls.flatten ⟨K, fun k hk => by
    show (slices_Grow_int_int.f _ _).bind _ = _
    unfold slices_Grow_int_int.f
    rw [if_pos (by omega), if_pos (by omega), Option.bind_some]
    have := h k hk
    rw [List.drop_zero, List.nil_append] at this
    exact this⟩ ls.length 0 0 (by omega) (by simp)
  dsimp only at h2
  refine ⟨K2, fun k hk => ?_⟩
  show slices_Concat_int_int.f k _ = _
  unfold slices_Concat_int_int.f
  exact h2 k hk

theorem impl_within.is (a lo hi : Int) : impl_within.f a lo hi = some (decide (lo ≤ a ∧ a ≤ hi)) := by
  unfold impl_within.f
  by_cases h : a ≥ lo
  · rw [if_pos h]
    congr 1
    simp only [decide_eq_decide]
    exact ⟨fun h' => ⟨h, h'⟩, fun h' => h'.2⟩
  · rw [if_neg h, decide_eq_false (fun h' => h h'.1)]
theorem impl_VarText.ev0 (n : Nat) : ∀ (acc : List UInt8), n ≤ 9223372036854775807 → acc.length + (vt n).length ≤ 100 → Ev (fun k => impl_VarText.l0 k (n : Int) (nm acc)) (mk (acc ++ vt n), true) := by
  induction n using Nat.strongRecOn with
  | ind n ih =>
    intro acc hn hl
    have hal := nm_length acc
    by_cases h : 127 < n
    · have e1 : Int.tmod (n : Int) 128 = ((n % 128 : Nat) : Int) := tmod_nat n 128
      have e2 : Int.tdiv (n : Int) 128 = ((n / 128 : Nat) : Int) := tdiv_nat n 128
      rw [vt_big h] at hl ⊢
      have e3 : [(wrap64 ((Int.tmod (n : Int) 128) + 128)) % 256] = nm [UInt8.ofNat (n % 128 + 128)] := by
        rw [nm_u8 _ (by omega), e1, w64 (by omega) (by omega)]
        congr 1
        omega
      have := ih (n / 128) (by omega) (acc ++ [UInt8.ofNat (n % 128 + 128)]) (by omega) (by simp at hl ⊢; omega)
      rw [List.append_assoc, List.singleton_append] at this
      refine Ev.step (fun k => ?_) this
      show impl_VarText.l0 (k + 1) _ _ = _
      rw [impl_VarText.l0, if_pos (by omega), if_pos (by simp at hl; omega), e3, e2, w64 (by omega) (by omega), nm_append]
    · refine ⟨1, fun k hk => ?_⟩
      obtain ⟨k, rfl⟩ : ∃ m, k = m + 1 := ⟨k - 1, by omega⟩
      show impl_VarText.l0 (k + 1) _ _ = _
      have e3 : [(n : Int) % 256] = nm [UInt8.ofNat n] := by
        rw [nm_u8 _ (by omega)]
        congr 1
        omega
      rw [vt_small (by omega)] at hl ⊢
      rw [impl_VarText.l0, if_neg (by omega), if_pos (by simp at hl; omega), e3, ← nm_append, strOf_nm]
theorem impl_VarText.ev (n : Int) : Ev (fun k => impl_VarText.f k n) (varOf n) := by
  unfold varOf
  by_cases h : 0 ≤ n ∧ n ≤ 1000000000
  · obtain ⟨m, rfl⟩ := Int.eq_ofNat_of_zero_le h.1
    have hl := vt_len5 (n := m) (by omega)
    obtain ⟨K, hK⟩ := impl_VarText.ev0 m [] (by omega) (by simp; omega)
    dsimp only at hK
    refine ⟨K, fun k hk => ?_⟩
    show impl_VarText.f k _ = _
    unfold impl_VarText.f
    rw [impl_within.is, decide_eq_true h, if_pos h]
    simp only [Option.bind_some, if_true]
    rw [nm_nil, hK k hk]
    rfl
  · refine ⟨0, fun k hk => ?_⟩
    show impl_VarText.f k _ = _
    unfold impl_VarText.f
    rw [impl_within.is, decide_eq_false h, if_neg h]
    rfl
theorem loop_all {F : Nat → Nat → Option Bool} {C : Nat → Bool} {n : Nat} {fin : Bool} (step : ∀ k i, i < n → F (k + 1) i = if C i = true then F k (i + 1) else some false)
    (stop : Ev (fun k => F k n) fin) (d : Nat) : ∀ i, i + d = n → Ev (fun k => F k i) (allF C d i && fin) := by
  induction d with
  | zero =>
    intro i hi
    obtain rfl : i = n := by omega
    rw [allF, Bool.true_and]
    exact stop
  | succ d ih =>
    intro i hi
    by_cases hC : C i = true
    · rw [allF, hC, Bool.true_and]
      exact Ev.step (fun k => by rw [step k i (by omega), if_pos hC]) (ih (i + 1) (by omega))
    · rw [allF, Bool.eq_false_iff.2 hC, Bool.false_and, Bool.false_and]
      exact ev_now fun k => by rw [step k i (by omega), if_neg hC]
theorem impl_ConfOk.ev0 (l : List Int) (hs : l.length ≤ 17592186043904) (d : Nat) : ∀ (i : Nat), i + d = l.length →
    Ev (fun k => impl_ConfOk.l0 k l l (l.length : Int) (i : Int)) (allF (riseC l 1 4) d i && decide (1 ≤ (l.length : Int) ∧ (l.length : Int) ≤ 4)) := by
  induction d with
  | zero =>
    intro i hi
    refine ev_now fun k => ?_
    show impl_ConfOk.l0 (k + 1) _ _ _ _ = _
    rw [impl_ConfOk.l0, if_neg (by omega)]
    rw [impl_within.is]; simp [allF]
  | succ d ih =>
    intro i hi
    have e0 : rd l (i : Int) = l.getD i 0 := rfl
    by_cases h1 : 1 ≤ l.getD i 0 ∧ l.getD i 0 ≤ 4
    · by_cases h2 : i = 0
      · have hC : riseC l 1 4 i = true := by simp only [riseC, decide_eq_true h1, decide_eq_true h2, Bool.true_or, Bool.and_true]
        simp only [allF, hC, Bool.true_and]
        refine Ev.step (fun k => ?_) (ih (i + 1) (by omega))
        show impl_ConfOk.l0 (k + 1) _ _ _ _ = impl_ConfOk.l0 k _ _ _ _
        rw [impl_ConfOk.l0, if_pos (by omega), if_pos (by omega), if_pos (by omega), impl_within.is, e0, decide_eq_true h1]
        simp only [Option.bind_some, if_true]
        rw [if_neg (by omega), w64 (by omega) (by omega)]
        rfl
      · have e1 : rd l (wrap64 ((i : Int) - 1)) = l.getD (i - 1) 0 := by
          rw [w64 (by omega) (by omega), show (i : Int) - 1 = ((i - 1 : Nat) : Int) by omega, rd_nat]
        have e2 : wrap64 ((i : Int) - 1) = ((i - 1 : Nat) : Int) := by rw [w64 (by omega) (by omega)]; omega
        by_cases h3 : l.getD (i - 1) 0 < l.getD i 0
        · have hC : riseC l 1 4 i = true := by simp only [riseC, decide_eq_true h1, decide_eq_true h3, Bool.or_true, Bool.and_true]
          simp only [allF, hC, Bool.true_and]
          refine Ev.step (fun k => ?_) (ih (i + 1) (by omega))
          show impl_ConfOk.l0 (k + 1) _ _ _ _ = impl_ConfOk.l0 k _ _ _ _
          rw [impl_ConfOk.l0, if_pos (by omega), if_pos (by omega), if_pos (by omega), impl_within.is, e0, decide_eq_true h1]
          simp only [Option.bind_some, if_true]
          rw [if_pos (by omega), if_pos (by omega), if_pos (by omega), e1, if_neg (by omega), w64 (x := (i : Int) + 1) (by omega) (by omega)]
          rfl
        · have hC : riseC l 1 4 i = false := by simp only [riseC, decide_eq_true h1, decide_eq_false h3, decide_eq_false h2, Bool.or_false, Bool.and_false]
          simp only [allF, hC, Bool.false_and]
          refine ev_now fun k => ?_
          show impl_ConfOk.l0 (k + 1) _ _ _ _ = _
          rw [impl_ConfOk.l0, if_pos (by omega), if_pos (by omega), if_pos (by omega), impl_within.is, e0, decide_eq_true h1]
          simp only [Option.bind_some, if_true]
          rw [if_pos (by omega), if_pos (by omega), if_pos (by omega), e1, if_pos (by omega)]
    · have hC : riseC l 1 4 i = false := by simp only [riseC, decide_eq_false h1, Bool.false_and]
      simp only [allF, hC, Bool.false_and]
      refine ev_now fun k => ?_
      show impl_ConfOk.l0 (k + 1) _ _ _ _ = _
      rw [impl_ConfOk.l0, if_pos (by omega), if_pos (by omega), if_pos (by omega), impl_within.is, e0, decide_eq_false h1]
      simp
theorem impl_ConfOk.ev (l : List Int) (hs : l.length ≤ 17592186043904) : Ev (fun k => impl_ConfOk.f k l) (confOf l) := by
  obtain ⟨K, h⟩ := impl_ConfOk.ev0 l hs l.length 0 (by omega)
  exact ⟨K, fun k hk => h k hk⟩
theorem impl_ManifestOk.step (l : List Int) (next base bt : Int) (c : List Int) (hs : l.length ≤ 1048576) (k i : Nat) (hlt : i < l.length) :
    impl_ManifestOk.l0 (k + 1) l (l.length : Int) (i : Int) l next base bt c = if manC l next i = true then impl_ManifestOk.l0 k l (l.length : Int) ((i + 1 : Nat) : Int) l next base bt c else some false := by
  have e0 : rd l (i : Int) = l.getD i 0 := rfl
  have e3 : Hd (wrap64 ((i : Int) + 1) = ((i + 1 : Nat) : Int)) := Hd.mk <| by rw [w64 (by omega) (by omega)]; rfl
  have e2 : Hd (0 < i → wrap64 ((i : Int) - 1) = ((i - 1 : Nat) : Int)) := Hd.mk fun h => by rw [w64 (by omega) (by omega)]; omega
  rw [impl_ManifestOk.l0, if_pos (by omega), if_pos (by omega), if_pos (by omega), e0, impl_within.is, Option.bind_some, e3.out]
  by_cases h2 : i = 0
  · simp only [if_neg (show ¬ ((i : Int) > 0) by omega)]
    unfold manC
    generalize l.getD i 0 = x
    generalize impl_ManifestOk.l0 k l (l.length : Int) ((i + 1 : Nat) : Int) l next base bt c = R
    by_cases h1 : 0 ≤ x ∧ x ≤ 999 <;> by_cases hv : x ≥ next <;> simp [h1, hv, h2]
  · have e1 : rd l ((i - 1 : Nat) : Int) = l.getD (i - 1) 0 := rfl
    simp only [if_pos (show ((i : Int) > 0) by omega), e2.out (by omega), if_pos (show (0 : Int) ≤ ((i - 1 : Nat) : Int) by omega), if_pos (show ((i - 1 : Nat) : Int) < (l.length : Int) by omega), e1]
    unfold manC
    generalize l.getD i 0 = x
    generalize l.getD (i - 1) 0 = y
    generalize impl_ManifestOk.l0 k l (l.length : Int) ((i + 1 : Nat) : Int) l next base bt c = R
    by_cases h1 : 0 ≤ x ∧ x ≤ 999 <;> by_cases hv : x ≥ next <;> by_cases hb : y ≥ x <;> simp [h1, hv, hb, h2]
theorem impl_ManifestOk.ev (l : List Int) (next base bt : Int) (c : List Int) (hs : l.length ≤ 1048576) (hc : c.length ≤ 1048576) : Ev (fun k => impl_ManifestOk.f k l next base bt c) (manOf l next base bt c) := by
  have stop : Ev (fun k => impl_ManifestOk.l0 k l (l.length : Int) ((l.length : Nat) : Int) l next base bt c)
      (decide (1 ≤ (l.length : Int) ∧ (l.length : Int) ≤ 8) && (decide (next ≤ 1000) && (decide (0 ≤ base ∧ base ≤ 100000) && (decide (0 ≤ bt ∧ bt ≤ 100000) && confOf c)))) := by
    obtain ⟨K, hK⟩ := impl_ConfOk.ev c (by omega)
    dsimp only at hK
    refine ⟨K + 1, fun k hk => ?_⟩
    obtain ⟨k, rfl⟩ : ∃ m, k = m + 1 := ⟨k - 1, by omega⟩
    show impl_ManifestOk.l0 (k + 1) _ _ _ _ _ _ _ _ = _
    rw [impl_ManifestOk.l0, if_neg (by omega), hK k (by omega)]
    simp only [impl_within.is, Option.bind_some]
    by_cases h1 : 1 ≤ (l.length : Int) ∧ (l.length : Int) ≤ 8 <;> by_cases h2 : next ≤ 1000 <;> by_cases h3 : 0 ≤ base ∧ base ≤ 100000 <;> by_cases h4 : 0 ≤ bt ∧ bt ≤ 100000 <;> simp [h1, h2, h3, h4]
  obtain ⟨K, h⟩ := loop_all (F := fun k i => impl_ManifestOk.l0 k l (l.length : Int) (i : Int) l next base bt c) (fun k i hi => impl_ManifestOk.step l next base bt c hs k i hi) stop l.length 0 (by omega)
  exact ⟨K, fun k hk => h k hk⟩
theorem impl_SumMore.ev1 (l : List UInt8) (i : Nat) (hi : i < l.length) (hs : l.length ≤ 140737488351232) (r : Int) (d : Nat) :
    ∀ (x j : Nat), x < 4294967296 → j + d = 8 → Ev (fun k => impl_SumMore.l0 k ((crcBits d x : Nat) : Int) (mk l) ((i + 1 : Nat) : Int)) r → Ev (fun k => impl_SumMore.l1 k (x : Int) (mk l) (i : Int) (j : Int)) r := by
  induction d with
  | zero =>
    intro x j hx hj h
    refine Ev.step (fun k => ?_) h
    show impl_SumMore.l1 (k + 1) _ _ _ _ = _
    rw [impl_SumMore.l1]
    rw [if_neg (by omega), w64 (by omega) (by omega)]
    rfl
  | succ d ih =>
    intro x j hx hj h
    refine Ev.step (fun k => ?_) (ih (crcBit x) (j + 1) (crcBit_lt hx) (by omega) h)
    show impl_SumMore.l1 (k + 1) _ _ _ _ = _
    rw [impl_SumMore.l1]
    have e1 : Int.tmod (x : Int) 2 = ((x % 2 : Nat) : Int) := tmod_nat x 2
    have e2 : Int.tdiv (x : Int) 2 = ((x / 2 : Nat) : Int) := tdiv_nat x 2
    rw [if_pos (by omega), w64 (x := (j : Int) + 1) (by omega) (by omega), e1, e2, show ((x / 2 : Nat) : Int) % 4294967296 = ((x / 2 : Nat) : Int) by omega]
    unfold crcBit
    by_cases hb : x % 2 = 1
    · rw [if_pos (by omega), if_pos hb, show (3558460437 : Int) = ((3558460437 : Nat) : Int) from rfl, u32_xor_nat _ _ (by omega) (by omega)]
      rfl
    · rw [if_neg (by omega), if_neg hb]
      rfl
theorem impl_SumMore.ev0 (l : List UInt8) (hs : l.length ≤ 140737488351232) (d : Nat) :
    ∀ (i x : Nat), x < 4294967296 → i + d = l.length → Ev (fun k => impl_SumMore.l0 k (x : Int) (mk l) (i : Int)) ((crcL x (l.drop i) : Nat) : Int) := by
  have hsz := mk_size l
  induction d with
  | zero =>
    intro i x hx hi
    refine ⟨1, fun k hk => ?_⟩
    obtain ⟨k, rfl⟩ : ∃ m, k = m + 1 := ⟨k - 1, by omega⟩
    show impl_SumMore.l0 (k + 1) _ _ _ = _
    rw [impl_SumMore.l0]
    rw [if_neg (by omega), List.drop_eq_nil_of_le (by omega)]
    rfl
  | succ d ih =>
    intro i x hx hi
    have hlt : i < l.length := by omega
    have hb : (l[i]).toNat < 256 := (l[i]).toNat_lt
    have hx2 : x ^^^ (l[i]).toNat < 4294967296 := xor_lt32 hx (by omega)
    rw [drop_cons l i hlt, crcL_cons]
    refine Ev.step (fun k => ?_) (impl_SumMore.ev1 l i hlt hs _ 8 (x ^^^ (l[i]).toNat) 0 hx2 (by omega) (ih (i + 1) _ (crcBits_lt 8 hx2) (by omega)))
    show impl_SumMore.l0 (k + 1) _ _ _ = _
    rw [impl_SumMore.l0]
    rw [if_pos (by omega), if_pos (by omega), bt_mk l i hlt, show (((l[i]).toNat : Nat) : Int) % 4294967296 = ((l[i]).toNat : Int) by omega, u32_xor_nat _ _ hx (by omega)]
    rfl
theorem impl_SumMore.ev (l : List UInt8) (hs : l.length ≤ 140737488351232) (x : Nat) (hx : x < 4294967296) : Ev (fun k => impl_SumMore.f k (x : Int) (mk l)) ((crcL x l : Nat) : Int) :=
  impl_SumMore.ev0 l hs l.length 0 x hx (by omega)
theorem impl_SumOf.ev (l : List UInt8) (hs : l.length ≤ 140737488351232) : Ev (fun k => impl_SumOf.f k (mk l)) ((crc l : Nat) : Int) := by
  obtain ⟨K, h⟩ := impl_SumMore.ev l hs 4294967295 (by omega)
  dsimp only at h
  refine ⟨K, fun k hk => ?_⟩
  show impl_SumOf.f k _ = _
  unfold impl_SumOf.f
  rw [show (4294967295 : Int) = ((4294967295 : Nat) : Int) from rfl, h k hk]
  rfl
theorem impl_Sealed.ev (l : List UInt8) (hs : l.length ≤ 140737488351232) : Ev (fun k => impl_Sealed.f k (mk l)) (sealOf l) := by
  have hsz := mk_size l
  unfold sealOf
  obtain ⟨K, h⟩ := impl_SumOf.ev l hs
  dsimp only at h
  refine ⟨K, fun k hk => ?_⟩
  show impl_Sealed.f k _ = _
  unfold impl_Sealed.f
  by_cases hc : l.length ≤ 20000
  · rw [if_neg (by omega), if_pos hc, h k hk, Option.bind_some, Option.bind_some, four_nm, strOf_nm, if_pos (by rw [mk_size, mk_size, four_len]; omega), mk_append]
  · rw [if_pos (by omega), if_neg hc]
    rfl
theorem impl_ManifestText.ev (l : List Int) (next base bt : Int) (c : List Int) (hs : l.length ≤ 1048576) (hc : c.length ≤ 1048576) : Ev (fun k => impl_ManifestText.f k l next base bt c) (manTextOf l next base bt c) := by
  obtain ⟨K0, h0⟩ := impl_ManifestOk.ev l next base bt c hs hc
  dsimp only at h0
  unfold manTextOf
  by_cases hb : manOf l next base bt c = true
  · obtain ⟨a1, a2, a3, a4, a5, a6, a7, a8, a9, b1, b2, b3⟩ := manOf_small hb
    have hfl : ([([(l.length : Int)] : List Int), l, ([next, base, bt, (c.length : Int)] : List Int), c] : List (List Int)).flatten = (l.length : Int) :: (l ++ (next :: base :: bt :: (c.length : Int) :: c)) := by simp
    have hln : ((l.length : Int) :: (l ++ (next :: base :: bt :: (c.length : Int) :: c))).length ≤ 20 := by simp; omega
    have hmm : ∀ x ∈ ((l.length : Int) :: (l ++ (next :: base :: bt :: (c.length : Int) :: c))), 0 ≤ x ∧ x ≤ 1000000000 := by
      intro x hx
      simp only [List.mem_cons, List.mem_append] at hx
      rcases hx with rfl | hx | rfl | rfl | rfl | rfl | hx
      · omega
      · have := a3 x hx; omega
      · omega
      · omega
      · omega
      · omega
      · have := b3 x hx; omega
    have hvl := vts_len _ hmm
    have hmt : vts ((l.length : Int) :: (l ++ (next :: base :: bt :: (c.length : Int) :: c))) = manT l next base bt c := by
      simp only [vts, vts_append, manT, Int.toNat_natCast, List.append_assoc]
    obtain ⟨K1, h1⟩ := slices_Concat_int_int.ev [([(l.length : Int)] : List Int), l, ([next, base, bt, (c.length : Int)] : List Int), c] (by simp) (by rw [hfl]; simp) (by rw [hfl]; omega)
    obtain ⟨K2, h2⟩ := impl_vars.ev0 ((l.length : Int) :: (l ++ (next :: base :: bt :: (c.length : Int) :: c))) (by omega) hmm impl_VarText.ev ((l.length : Int) :: (l ++ (next :: base :: bt :: (c.length : Int) :: c))).length 0 [] (by omega) (by simp)
    obtain ⟨K3, h3⟩ := impl_Sealed.ev (manT l next base bt c) (by rw [← hmt]; omega)
    dsimp only at h1 h2 h3
    refine ⟨K0 + K1 + K2 + K3, fun k hk => ?_⟩
    show impl_ManifestText.f k _ _ _ _ _ = _
    have h2' : impl_vars.f k ((l.length : Int) :: (l ++ (next :: base :: bt :: (c.length : Int) :: c))) = some (mk (manT l next base bt c), true) := by
      have h4 := h2 k (by omega)
      rw [List.drop_zero, List.nil_append, hmt] at h4
      exact h4
    unfold impl_ManifestText.f
    rw [h0 k (by omega), Option.bind_some, if_pos hb, h1 k (by omega), Option.bind_some, hfl, if_pos hb, h2', Option.bind_some, h3 k (by omega)]
    rfl
  · refine ⟨K0, fun k hk => ?_⟩
    show impl_ManifestText.f k _ _ _ _ _ = _
    unfold impl_ManifestText.f
    rw [h0 k (by omega), Option.bind_some, if_neg hb, if_neg hb]
    rfl

theorem laws_toIntS.ev0 (l : List Int) (hs : l.length ≤ 17592186043904) (d : Nat) : ∀ (i : Nat) (x : List Int), i + d = l.length → x.length = l.length → x.take i = l.take i →
    Ev (fun k => laws_toIntS.l0 k l x (i : Int)) l := by
  induction d with
  | zero =>
    intro i x hi hx he
    refine ev_now fun k => ?_
    show laws_toIntS.l0 (k + 1) _ _ _ = _
    rw [laws_toIntS.l0, if_neg (by omega)]
    rw [List.take_of_length_le (by omega), List.take_of_length_le (by omega)] at he
    rw [he]
  | succ d ih =>
    intro i x hi hx he
    refine Ev.step (fun k => ?_) (ih (i + 1) (x.set i (l.getD i 0)) (by omega) (by simp; omega) ?_)
    · show laws_toIntS.l0 (k + 1) _ _ _ = laws_toIntS.l0 k _ _ _
      rw [laws_toIntS.l0, if_pos (by omega), if_pos (by omega), if_pos (by omega), w64 (by omega) (by omega)]
      rfl
    · rw [List.take_succ_eq_append_getElem (by simp; omega), List.take_succ_eq_append_getElem (by omega : i < l.length), List.take_set_of_le (by omega), he]
      simp [List.getD_eq_getElem?_getD, List.getElem?_eq_getElem (show i < l.length by omega)]
theorem laws_toIntS.ev (l : List Int) (hs : l.length ≤ 17592186043904) : Ev (fun k => laws_toIntS.f k l) l := by
  obtain ⟨K, h⟩ := laws_toIntS.ev0 l hs l.length 0 (List.replicate l.length 0) (by omega) (by simp) (by simp)
  dsimp only at h
  refine ⟨K, fun k hk => ?_⟩
  show laws_toIntS.f k _ = _
  unfold laws_toIntS.f
  rw [if_pos (by omega), if_pos (by omega)]
  exact h k hk
theorem laws_eqIntS.ev0 (a : List Int) (hs : a.length ≤ 17592186043904) (d : Nat) : ∀ (i : Nat), i + d = a.length → Ev (fun k => laws_eqIntS.l0 k a a (i : Int)) true := by
  induction d with
  | zero =>
    intro i hi
    refine ev_now fun k => ?_
    show laws_eqIntS.l0 (k + 1) _ _ _ = _
    rw [laws_eqIntS.l0, if_neg (by omega)]
  | succ d ih =>
    intro i hi
    refine Ev.step (fun k => ?_) (ih (i + 1) (by omega))
    show laws_eqIntS.l0 (k + 1) _ _ _ = laws_eqIntS.l0 k _ _ _
    rw [laws_eqIntS.l0, if_pos (by omega), if_pos (by omega), if_pos (by omega), if_pos rfl, w64 (by omega) (by omega)]
    rfl
theorem laws_eqIntS.ev1 (a : List Int) (hs : a.length ≤ 17592186043904) : Ev (fun k => laws_eqIntS.f k a a) true := by
  obtain ⟨K, h⟩ := laws_eqIntS.ev0 a hs a.length 0 (by omega)
  dsimp only at h
  refine ⟨K, fun k hk => ?_⟩
  show laws_eqIntS.f k _ _ = _
  unfold laws_eqIntS.f
  rw [if_pos rfl]
  exact h k hk

theorem laws_szManifest.is (l : List Int) (next base bt : Int) (c : List Int) (hl : l.length ≤ 9223372036854775807) (hc : c.length ≤ 9223372036854775807) : laws_szManifest.f l next base bt c 1048576 = some (if (l.length : Int) > 1048576 then -1 else if (l.length : Int) + c.length > 1048576 then -1 else 1048576 - (l.length : Int) - (c.length : Int)) := by
  have e1 : Hd (wrap64 (1048576 - (l.length : Int)) = 1048576 - (l.length : Int)) := Hd.mk <| w64 (by omega) (by omega)
  have e2 : Hd ((l.length : Int) ≤ 1048576 → wrap64 (1048576 - (l.length : Int) - (c.length : Int)) = 1048576 - (l.length : Int) - (c.length : Int)) := Hd.mk fun h => w64 (by omega) (by omega)
  unfold laws_szManifest.f laws_szIntS.f
  rw [e1.out]
  by_cases h1 : (l.length : Int) > 1048576
  · rw [if_pos (show 1048576 - (l.length : Int) < 0 by omega), Option.bind_some, if_pos (by omega), if_pos h1]
  · rw [if_neg (show ¬ 1048576 - (l.length : Int) < 0 by omega), Option.bind_some, if_neg (by omega), if_neg h1, e2.out (by omega)]
    by_cases h2 : (l.length : Int) + c.length > 1048576
    · rw [if_pos (by omega), Option.bind_some, if_pos (by omega), if_pos h2]
    · rw [if_neg (by omega), Option.bind_some, if_neg (by omega), if_neg h2]

theorem FnExactManifestText : ∀ (l0_0 : List Int) (a0_1 : Int) (a0_2 : Int) (a0_3 : Int) (l0_4 : List Int), (l0_0.length ≤ maxLen ∧ ∀ y ∈ l0_0, (Lit.int .i64 y).wf = true) → ((Lit.int .i64 a0_1).wf = true) → ((Lit.int .i64 a0_2).wf = true) → ((Lit.int .i64 a0_3).wf = true) → (l0_4.length ≤ maxLen ∧ ∀ y ∈ l0_4, (Lit.int .i64 y).wf = true) →
    ∃ k, laws_FnExactManifestText.f k l0_0 a0_1 a0_2 a0_3 l0_4 = some true := by
  intro l next base bt c hl _ _ _ hc
  unfold maxLen at hl hc
  have hsz := laws_szManifest.is l next base bt c (by omega) (by omega)
  by_cases h1 : (l.length : Int) > 1048576
  · refine ⟨0, ?_⟩
    unfold laws_FnExactManifestText.f
    rw [hsz, if_pos h1]
    rfl
  by_cases h2 : (l.length : Int) + c.length > 1048576
  · refine ⟨0, ?_⟩
    unfold laws_FnExactManifestText.f
    rw [hsz, if_neg h1, if_pos h2]
    rfl
  obtain ⟨K1, k1⟩ := spec_ManifestText.ev l next base bt c (by omega) (by omega)
  obtain ⟨K2, k2⟩ := impl_ManifestText.ev l next base bt c (by omega) (by omega)
  obtain ⟨K3, k3⟩ := laws_toIntS.ev l (by omega)
  obtain ⟨K4, k4⟩ := laws_toIntS.ev c (by omega)
  obtain ⟨K5, k5⟩ := laws_eqIntS.ev1 l (by omega)
  obtain ⟨K6, k6⟩ := laws_eqIntS.ev1 c (by omega)
  dsimp only at k1 k2 k3 k4 k5 k6
  refine ⟨K1 + K2 + K3 + K4 + K5 + K6 + 1, ?_⟩
  unfold laws_FnExactManifestText.f laws_toManifest.f
  rw [hsz, if_neg h1, if_neg h2, Option.bind_some, if_neg (by omega), k3 _ (by omega), k4 _ (by omega)]
  simp only [Option.bind_some]
  rw [k1 _ (by omega), k2 _ (by omega)]
  simp only [Option.bind_some, if_true, bne_self_eq_false]
  rw [laws_FnExactManifestText.j0]
  unfold laws_toManifest.f laws_eqManifest.f
  rw [k3 _ (by omega), k4 _ (by omega)]
  simp only [Option.bind_some]
  rw [k5 _ (by omega), k6 _ (by omega)]
  simp

end Go.Proofs.Ytpnncgfmihjlkaa.Pure
