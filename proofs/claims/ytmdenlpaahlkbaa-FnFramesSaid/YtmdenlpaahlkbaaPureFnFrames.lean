/- The law FnFrames, over numbers and lists: for every input that the statement speaks of the printed function answers true; conditions: those of the printed statement. -/
import Derived.Test.YtmdenlpaahlkbaaQFnFramesx1
import Derived.Test.YtmdenlpaahlkbaaQFnFramesx2
import Derived.Test.YtmdenlpaahlkbaaQFnFramesx3
import Derived.Test.YtmdenlpaahlkbaaQFnFramesx4
import Derived.Laws.BitsAllLaws
namespace Go.Proofs.Ytmdenlpaahlkbaa.Pure
open Go.RowKit Go.Proofs.Ytmdenlpaahlkbaa.QFnFrames Go.Proofs.YtmdenlpaahlkbaaW.PrintWords Go.Proofs.YtmdenlpaahlkbaaW.PrintLast Go.Proofs.YtmdenlpaahlkbaaW.PrintMore
set_option linter.unusedVariables false
set_option linter.unusedSimpArgs false

/-! ### strings as lists of bytes -/
def mk (l : List UInt8) : ByteArray := ⟨l.toArray⟩
def nm (l : List UInt8) : List Int := l.map fun b => (b.toNat : Int)
theorem mk_of (s : ByteArray) : ∃ l, s = mk l := ⟨s.data.toList, rfl⟩
theorem mk_data (l : List UInt8) : (mk l).data.toList = l := rfl
theorem mk_toList (l : List UInt8) : (mk l).toList = l := by rw [ByteArray.toList_eq]; rfl
theorem mk_size (l : List UInt8) : (mk l).size = l.length := List.size_toArray
theorem mk_inj {a b : List UInt8} (h : mk a = mk b) : a = b := by rw [← mk_data a, h]; rfl
theorem mk_append (a b : List UInt8) : mk a ++ mk b = mk (a ++ b) := by
  apply ByteArray.ext
  rw [ByteArray.data_append]
  simp [mk]
theorem mk_extract (l : List UInt8) (i j : Nat) : (mk l).extract i j = mk ((l.drop i).take (j - i)) := by
  apply ByteArray.ext
  rw [ByteArray.data_extract]
  apply Array.ext'
  simp [mk, List.take_drop]
theorem mk_nil : (⟨#[]⟩ : ByteArray) = mk [] := rfl
theorem nm_append (a b : List UInt8) : nm (a ++ b) = nm a ++ nm b := by simp [nm]
theorem nm_length (a : List UInt8) : (nm a).length = a.length := by simp [nm]
theorem nm_nil : ([] : List Int) = nm [] := rfl
theorem strOf_nm (l : List UInt8) : strOfNums (nm l) = mk l := by
  unfold strOfNums nm mk
  rw [List.map_map]
  congr 1
  have : ∀ l : List UInt8, List.map ((fun n : Int => UInt8.ofNat n.toNat) ∘ fun b : UInt8 => (b.toNat : Int)) l = l := by
    intro l
    induction l with
    | nil => rfl
    | cons a l ih => rw [List.map_cons, ih]; simp
  rw [this]
theorem bt_mk (l : List UInt8) (n : Nat) (h : n < l.length) : bt (mk l) (n : Int) = ((l[n]).toNat : Int) := by
  unfold bt
  rw [dif_pos (show (n : Int).toNat < (mk l).size by rw [mk_size]; omega)]
  rfl
/-- A fact that omega doesn't look into. -/
structure Hd (p : Prop) : Prop where
  mk :: (out : p)
theorem w64 {x : Int} (h0 : -9223372036854775808 ≤ x) (h1 : x ≤ 9223372036854775807) : wrap64 x = x := by
  unfold wrap64
  omega
theorem nm_u8 (n : Nat) (h : n < 256) : nm [UInt8.ofNat n] = [(n : Int)] := by
  simp [nm]
  omega
theorem tmod_nat (x d : Nat) : Int.tmod (x : Int) (d : Int) = ((x % d : Nat) : Int) := by
  rw [Int.tmod_eq_emod_of_nonneg (by omega)]
  exact (Int.natCast_emod x d).symm
theorem tdiv_nat (x d : Nat) : Int.tdiv (x : Int) (d : Int) = ((x / d : Nat) : Int) := by
  rw [Int.tdiv_eq_ediv_of_nonneg (by omega)]
  exact (Int.natCast_ediv x d).symm
theorem drop_cons (l : List UInt8) (i : Nat) (h : i < l.length) : l.drop i = l[i] :: l.drop (i + 1) := List.drop_eq_getElem_cons h
/-! ### numbers in bytes -/
def vt (n : Nat) : List UInt8 := if h : 127 < n then UInt8.ofNat (n % 128 + 128) :: vt (n / 128) else [UInt8.ofNat n]
termination_by n
decreasing_by omega
theorem vt_big {n : Nat} (h : 127 < n) : vt n = UInt8.ofNat (n % 128 + 128) :: vt (n / 128) := by rw [vt, dif_pos h]
theorem vt_small {n : Nat} (h : n ≤ 127) : vt n = [UInt8.ofNat n] := by rw [vt, dif_neg (by omega)]
theorem vt_len (d : Nat) : ∀ n : Nat, n < 128 * 128 ^ d → 1 ≤ (vt n).length ∧ (vt n).length ≤ d + 1 := by
  induction d with
  | zero => intro n h; rw [vt_small (by omega)]; simp
  | succ d ih =>
    intro n h
    by_cases hn : 127 < n
    · rw [vt_big hn]
      have := ih (n / 128) (by rw [Nat.pow_succ] at h; omega)
      simp only [List.length_cons]
      omega
    · rw [vt_small (by omega)]; simp
theorem vt_len8 {n : Nat} (h : n ≤ 9223372036854775807) : 1 ≤ (vt n).length ∧ (vt n).length ≤ 9 := vt_len 8 n (by omega)
theorem vt_len5 {n : Nat} (h : n ≤ 1000000000) : 1 ≤ (vt n).length ∧ (vt n).length ≤ 5 := vt_len 4 n (by omega)
/-- What VarText answers. -/
def varOf (n : Int) : ByteArray × Bool := if 0 ≤ n ∧ n ≤ 1000000000 then (mk (vt n.toNat), true) else (mk [], false)
/-! ### the check sum -/
def crcBit (x : Nat) : Nat := if x % 2 = 1 then (x / 2) ^^^ 3558460437 else x / 2
def crcBits : Nat → Nat → Nat
  | 0, x => x
  | n + 1, x => crcBits n (crcBit x)
def crcL (x : Nat) (l : List UInt8) : Nat := l.foldl (fun x b => crcBits 8 (x ^^^ b.toNat)) x
theorem xor_lt32 {a b : Nat} (ha : a < 4294967296) (hb : b < 4294967296) : a ^^^ b < 4294967296 := Nat.xor_lt_two_pow (n := 32) ha hb
theorem crcBit_lt {x : Nat} (h : x < 4294967296) : crcBit x < 4294967296 := by
  unfold crcBit
  split
  · exact xor_lt32 (by omega) (by omega)
  · omega
theorem crcBits_lt : ∀ (n : Nat) {x : Nat}, x < 4294967296 → crcBits n x < 4294967296
  | 0, _, h => h
  | n + 1, _, h => crcBits_lt n (crcBit_lt h)
theorem crcL_cons (x : Nat) (b : UInt8) (l : List UInt8) : crcL x (b :: l) = crcL (crcBits 8 (x ^^^ b.toNat)) l := rfl
theorem crcL_lt : ∀ (l : List UInt8) {x : Nat}, x < 4294967296 → crcL x l < 4294967296
  | [], _, h => h
  | b :: l, _, h => crcL_lt l (crcBits_lt 8 (xor_lt32 h (by have := b.toNat_lt; omega)))
theorem crcL_append (x : Nat) (a b : List UInt8) : crcL x (a ++ b) = crcL (crcL x a) b := by simp [crcL, List.foldl_append]
def crc (l : List UInt8) : Nat := crcL 4294967295 l
theorem crc_lt (l : List UInt8) : crc l < 4294967296 := crcL_lt l (by omega)
/-- The sum in four bytes, the highest first. -/
def four (n : Nat) : List UInt8 := [UInt8.ofNat (n / 16777216 % 256), UInt8.ofNat (n / 65536 % 256), UInt8.ofNat (n / 256 % 256), UInt8.ofNat (n % 256)]
theorem four_nm (n : Nat) : ([((n : Int) / 16777216) % 256, ((n : Int) / 65536) % 256, ((n : Int) / 256) % 256, ((n : Int)) % 256] : List Int) = nm (four n) := by
  have e : ∀ m : Nat, (((UInt8.ofNat (m % 256)).toNat : Nat) : Int) = (m : Int) % 256 := by
    intro m
    rw [UInt8.toNat_ofNat']
    omega
  simp only [nm, four, List.map_cons, List.map_nil, e]
  congr
def frameL (l : List UInt8) : List UInt8 := vt l.length ++ four (crc l) ++ l
def frameOf (l : List UInt8) : ByteArray × Bool := if 1 ≤ (l.length : Int) ∧ (l.length : Int) ≤ 9000 then (mk (frameL l), true) else (mk [], false)
theorem four_len4 (n : Nat) : (four n).length = 4 := rfl
/-- The number that stands at a list's head in bytes of seven bits, at most f of them; and how many bytes it has. -/
def leb : Nat → List UInt8 → Option (Nat × Nat)
  | 0, _ => none
  | _ + 1, [] => none
  | f + 1, b :: l => if b.toNat < 128 then some (b.toNat, 1) else match leb f l with
    | none => none
    | some (n, c) => some (b.toNat % 128 + 128 * n, c + 1)
theorem leb_facts : ∀ (f : Nat) (l : List UInt8) (n c : Nat), leb f l = some (n, c) → 1 ≤ c ∧ c ≤ f ∧ c ≤ l.length ∧ n < 128 ^ f
  | 0, _, _, _, h => by simp [leb] at h
  | f + 1, [], _, _, h => by simp [leb] at h
  | f + 1, b :: l, n, c, h => by
    rw [leb] at h
    have hp : 1 ≤ 128 ^ f := Nat.pow_pos (by omega)
    by_cases hb : b.toNat < 128
    · rw [if_pos hb] at h
      simp only [Option.some.injEq, Prod.mk.injEq] at h
      obtain ⟨rfl, rfl⟩ := h
      simp only [List.length_cons, Nat.pow_succ]
      omega
    · rw [if_neg hb] at h
      cases hr : leb f l with
      | none => rw [hr] at h; simp at h
      | some p =>
        obtain ⟨n', c'⟩ := p
        rw [hr] at h
        simp only [Option.some.injEq, Prod.mk.injEq] at h
        obtain ⟨rfl, rfl⟩ := h
        have := leb_facts f l n' c' hr
        simp only [List.length_cons, Nat.pow_succ]
        omega
/-- As long as its own text: just its own text. -/
theorem leb_text : ∀ (f : Nat) (l : List UInt8) (n c : Nat), leb f l = some (n, c) → (vt n).length = c → vt n = l.take c
  | 0, _, _, _, h, _ => by simp [leb] at h
  | f + 1, [], _, _, h, _ => by simp [leb] at h
  | f + 1, b :: l, n, c, h, hl => by
    rw [leb] at h
    have hb8 := b.toNat_lt
    by_cases hb : b.toNat < 128
    · rw [if_pos hb] at h
      simp only [Option.some.injEq, Prod.mk.injEq] at h
      obtain ⟨rfl, rfl⟩ := h
      rw [vt_small (by omega)]
      simp
    · rw [if_neg hb] at h
      cases hr : leb f l with
      | none => rw [hr] at h; simp at h
      | some p =>
        obtain ⟨n', c'⟩ := p
        rw [hr] at h
        simp only [Option.some.injEq, Prod.mk.injEq] at h
        obtain ⟨rfl, rfl⟩ := h
        have hf := leb_facts f l n' c' hr
        by_cases hn : 127 < b.toNat % 128 + 128 * n'
        · rw [vt_big hn] at hl ⊢
          have e1 : (b.toNat % 128 + 128 * n') / 128 = n' := by omega
          have e2 : (b.toNat % 128 + 128 * n') % 128 + 128 = b.toNat := by omega
          rw [e1] at hl
          rw [e1, e2]
          simp only [List.length_cons, Nat.add_right_cancel_iff] at hl
          rw [leb_text f l n' c' hr hl]
          simp
        · rw [vt_small (by omega)] at hl
          simp at hl
          omega
theorem leb_vt (d : Nat) : ∀ (n : Nat) (r : List UInt8), (vt n).length ≤ d → leb d (vt n ++ r) = some (n, (vt n).length) := by
  induction d with
  | zero => intro n r h; have := (vt_len n n (by have := Nat.lt_pow_self (n := n) (a := 128) (by omega); omega)).1; omega
  | succ d ih =>
    intro n r h
    by_cases hn : 127 < n
    · rw [vt_big hn] at h ⊢
      simp only [List.length_cons] at h
      have hb : (UInt8.ofNat (n % 128 + 128)).toNat = n % 128 + 128 := by rw [UInt8.toNat_ofNat']; omega
      rw [List.cons_append, leb, hb, if_neg (by omega), ih (n / 128) r (by omega)]
      simp only [List.length_cons]
      congr 2
      omega
    · rw [vt_small (by omega)]
      have hb : (UInt8.ofNat n).toNat = n := by rw [UInt8.toNat_ofNat']; omega
      rw [List.singleton_append, leb, hb, if_pos (by omega)]
      rfl
def rvFin (a : Nat) : Option (Nat × Nat) → Int × Int × Bool
  | none => (0, 0, false)
  | some (n, c) => if n ≤ 1000000000 ∧ (vt n).length = c then ((n : Int), ((a + c : Nat) : Int), true) else (0, 0, false)
/-- What ReadVar answers. -/
def rvOf (l : List UInt8) (a : Int) : Int × Int × Bool := if 0 ≤ a ∧ a ≤ l.length then rvFin a.toNat (leb 5 (l.drop a.toNat)) else (0, 0, false)
def pw (i : Nat) : Nat := 128 ^ i
theorem pw_succ (i : Nat) : pw (i + 1) = pw i * 128 := Nat.pow_succ _ _
theorem pw_pos (i : Nat) : 1 ≤ pw i := Nat.pow_pos (by omega)
theorem pw_le5 {i : Nat} (h : i ≤ 5) : 1 ≤ pw i ∧ pw i ≤ 34359738368 := ⟨pw_pos i, (Nat.pow_le_pow_right (by omega) h : 128 ^ i ≤ 128 ^ 5)⟩
theorem pw_le4 {i : Nat} (h : i ≤ 4) : pw i ≤ 268435456 := (Nat.pow_le_pow_right (by omega) h : 128 ^ i ≤ 128 ^ 4)
/-- Byte m's seven bits at place i. -/
def dg (m i : Nat) : Nat := m % 128 * pw i
theorem dg_le (m i : Nat) (h : i ≤ 4) : dg m i ≤ 34091302912 := (Nat.mul_le_mul (by omega) (pw_le4 h) : m % 128 * pw i ≤ 127 * 268435456)
theorem dg_lt {n0 m i : Nat} (h : n0 < pw i) : n0 + dg m i < pw (i + 1) := by
  have : dg m i ≤ 127 * pw i := Nat.mul_le_mul_right _ (by omega)
  rw [pw_succ]
  omega
/-- What is told behind i bytes. -/
def lebOn (n0 i : Nat) : Option (Nat × Nat) → Option (Nat × Nat)
  | none => none
  | some (n, c) => some (n0 + pw i * n, i + c)
theorem lebOn_step (f : Nat) (b : UInt8) (l : List UInt8) (n0 i : Nat) (hb : ¬ b.toNat < 128) : lebOn n0 i (leb (f + 1) (b :: l)) = lebOn (n0 + dg b.toNat i) (i + 1) (leb f l) := by
  rw [leb, if_neg hb]
  cases leb f l with
  | none => rfl
  | some p =>
    obtain ⟨n, c⟩ := p
    simp only [lebOn, pw_succ, dg]
    congr 2
    · rw [Nat.mul_add, Nat.mul_comm (pw i) (b.toNat % 128), Nat.mul_assoc, Nat.add_assoc]
    · omega
theorem lebOn_last (f : Nat) (b : UInt8) (l : List UInt8) (n0 i : Nat) (hb : b.toNat < 128) : lebOn n0 i (leb (f + 1) (b :: l)) = some (n0 + dg b.toNat i, i + 1) := by
  rw [leb, if_pos hb]
  simp only [lebOn, dg]
  rw [Nat.mod_eq_of_lt hb, Nat.mul_comm]
theorem lebOn_zero (x : Option (Nat × Nat)) : lebOn 0 0 x = x := by
  cases x with
  | none => rfl
  | some p => obtain ⟨n, c⟩ := p; simp [lebOn, pw]
/-- What ReadShort answers. -/
def rsFin (l : List UInt8) (r : Int × Int × Bool) : ByteArray × Int × Bool :=
  if r.2.2 = true ∧ r.1 ≤ 20000 ∧ r.1 ≤ (l.length : Int) - r.2.1 then (mk ((l.drop r.2.1.toNat).take r.1.toNat), r.2.1 + r.1, true) else (mk [], 0, false)
def rsOf (l : List UInt8) (a : Int) : ByteArray × Int × Bool := rsFin l (rvOf l a)
theorem rvOf_facts (l : List UInt8) (a : Int) (h : (rvOf l a).2.2 = true) : ∃ n c at_ : Nat, a = at_ ∧ rvOf l a = ((n : Int), ((at_ + c : Nat) : Int), true) ∧ 1 ≤ c ∧ c ≤ 5 ∧ at_ + c ≤ l.length ∧ n ≤ 1000000000 ∧ leb 5 (l.drop at_) = some (n, c) ∧ (vt n).length = c := by
  unfold rvOf at h ⊢
  by_cases hc : 0 ≤ a ∧ a ≤ l.length
  · rw [if_pos hc] at h ⊢
    obtain ⟨m, rfl⟩ := Int.eq_ofNat_of_zero_le hc.1
    rw [Int.toNat_natCast] at h ⊢
    cases hl : leb 5 (l.drop m) with
    | none => rw [hl] at h; simp [rvFin] at h
    | some p =>
      obtain ⟨n, c⟩ := p
      have hf := leb_facts 5 _ n c hl
      rw [List.length_drop] at hf
      rw [hl] at h
      unfold rvFin at h ⊢
      dsimp only at h ⊢
      by_cases hk : n ≤ 1000000000 ∧ (vt n).length = c
      · rw [if_pos hk]
        exact ⟨n, c, m, rfl, rfl, hf.1, hf.2.1, by omega, hk.1, hl, hk.2⟩
      · rw [if_neg hk] at h
        simp at h
  · rw [if_neg hc] at h
    simp at h
/-- The whole frame that stands at a place: its record, and the place behind it. -/
def ufStep (l : List UInt8) (a : Nat) : Option (List UInt8 × Nat) :=
  match rvOf l (a : Int) with
  | (n, nx, ok) =>
    if ok = true ∧ n ≤ (l.length : Int) - nx - 4 then
      if (frameOf ((l.drop (nx.toNat + 4)).take n.toNat)).2 = true ∧ (frameOf ((l.drop (nx.toNat + 4)).take n.toNat)).1 = mk ((l.drop a).take (nx.toNat + 4 + n.toNat - a)) then
        some ((l.drop (nx.toNat + 4)).take n.toNat, nx.toNat + 4 + n.toNat)
      else none
    else none
def unf (l : List UInt8) : Nat → Nat → List ByteArray × Nat
  | 0, a => ([], a)
  | f + 1, a => match ufStep l a with
    | none => ([], a)
    | some (t, b) => (mk t :: (unf l f b).1, (unf l f b).2)
def unfOf (l : List UInt8) : List ByteArray × Int := if l.length ≤ 20000 then ((unf l (l.length + 1) 0).1, ((unf l (l.length + 1) 0).2 : Int)) else ([], 0)
theorem ufStep_gt {l : List UInt8} {a : Nat} {t : List UInt8} {b : Nat} (h : ufStep l a = some (t, b)) : a + 5 ≤ b ∧ b ≤ l.length := by
  unfold ufStep at h
  by_cases hr : (rvOf l (a : Int)).2.2 = true
  · obtain ⟨n, c, m, hm, e, h1, h2, h3, h4, h5, h6⟩ := rvOf_facts l a hr
    obtain rfl : a = m := by omega
    rw [e] at h
    dsimp only at h
    split at h
    · rename_i hc
      split at h
      · simp only [Option.some.injEq, Prod.mk.injEq] at h
        omega
      · simp at h
    · simp at h
  · rw [show rvOf l (a : Int) = ((rvOf l (a : Int)).1, (rvOf l (a : Int)).2.1, (rvOf l (a : Int)).2.2) from rfl] at h
    dsimp only at h
    rw [if_neg (fun h' => hr h'.1)] at h
    simp at h
theorem ufStep_end {l : List UInt8} {a : Nat} (h : l.length ≤ a) : ufStep l a = none := by
  cases hu : ufStep l a with
  | none => rfl
  | some p =>
    obtain ⟨t, b⟩ := p
    have := ufStep_gt hu
    omega
theorem unf_length (l : List UInt8) : ∀ (f a : Nat), a ≤ l.length → (unf l f a).1.length + a ≤ l.length ∧ (unf l f a).2 ≤ l.length ∧ a ≤ (unf l f a).2
  | 0, a, h => by simp [unf]; omega
  | f + 1, a, h => by
    rw [unf]
    cases hu : ufStep l a with
    | none => simp; omega
    | some p =>
      obtain ⟨t, b⟩ := p
      have := ufStep_gt hu
      have := unf_length l f b (by omega)
      simp only [List.length_cons]
      omega
theorem leb_prefix : ∀ (l : List UInt8) (f n : Nat) (r : List UInt8), vt n = l ++ r → r ≠ [] → leb f l = none
  | _, 0, _, _, _, _ => rfl
  | [], _ + 1, _, _, _, _ => rfl
  | b :: l, f + 1, n, r, h, hr => by
    by_cases hn : 127 < n
    · rw [vt_big hn, List.cons_append, List.cons_eq_cons] at h
      have hb : b.toNat = n % 128 + 128 := by rw [← h.1, UInt8.toNat_ofNat']; omega
      rw [leb, if_neg (by omega), leb_prefix l f (n / 128) r h.2 hr]
    · rw [vt_small (by omega), List.cons_append, List.cons_eq_cons] at h
      have := h.2.symm
      simp at this
      exact absurd this.2 hr
theorem frameL_length (t : List UInt8) : (frameL t).length = (vt t.length).length + 4 + t.length := by
  simp only [frameL, List.length_append, four_len4]
theorem ufStep_whole {l t r : List UInt8} {a : Nat} (hl : l.drop a = frameL t ++ r) (h1 : 1 ≤ t.length) (h2 : t.length ≤ 9000) : ufStep l a = some (t, a + (frameL t).length) := by
  have hv := vt_len5 (n := t.length) (by omega)
  have hfl := frameL_length t
  have hlen : l.length - a = (frameL t).length + r.length := by
    have := congrArg List.length hl
    simpa using this
  have hleb : leb 5 (l.drop a) = some (t.length, (vt t.length).length) := by
    rw [hl, frameL, List.append_assoc, List.append_assoc]
    exact leb_vt 5 t.length _ (by omega)
  have hrv : rvOf l (a : Int) = ((t.length : Int), ((a + (vt t.length).length : Nat) : Int), true) := by
    unfold rvOf
    rw [if_pos (by omega), Int.toNat_natCast, hleb]
    simp only [rvFin]
    rw [if_pos ⟨by omega, trivial⟩]
  have hd : (l.drop (a + (vt t.length).length + 4)).take t.length = t := by
    rw [Nat.add_assoc, ← List.drop_drop, hl, frameL, List.append_assoc, List.drop_append_of_le_length (by simp [four_len4])]
    rw [List.drop_of_length_le (by simp [four_len4]), List.nil_append, List.take_append_of_le_length (by omega), List.take_length]
  have hfo : frameOf t = (mk (frameL t), true) := by
    unfold frameOf
    rw [if_pos (by omega)]
  unfold ufStep
  rw [hrv]
  dsimp only
  rw [if_pos ⟨rfl, by omega⟩, Int.toNat_natCast, Int.toNat_natCast, hd, hfo, if_pos ⟨rfl, by
    rw [hl, List.take_append_of_le_length (by omega), List.take_of_length_le (by omega)]⟩]
  congr 2
  omega
theorem ufStep_torn {l t r : List UInt8} {a : Nat} (hl : frameL t = l.drop a ++ r) (hr : r ≠ []) (h2 : t.length ≤ 9000) : ufStep l a = none := by
  have hv := vt_len5 (n := t.length) (by omega)
  have hfl := frameL_length t
  have hlen : (frameL t).length = (l.length - a) + r.length := by
    have := congrArg List.length hl
    simpa using this
  have hr1 : 1 ≤ r.length := by
    cases r with
    | nil => exact absurd rfl hr
    | cons b r => simp
  unfold ufStep
  by_cases hc : (l.drop a).length < (vt t.length).length
  · have hp : vt t.length = l.drop a ++ (vt t.length).drop (l.drop a).length := by
      have : (vt t.length).take (l.drop a).length = l.drop a := by
        have e := congrArg (List.take (l.drop a).length) hl
        rw [List.take_append_of_le_length (Nat.le_refl _), List.take_length, frameL, List.append_assoc, List.take_append_of_le_length (by omega)] at e
        exact e
      conv => lhs; rw [← List.take_append_drop (l.drop a).length (vt t.length), this]
    have hleb : leb 5 (l.drop a) = none := leb_prefix _ 5 t.length _ hp (fun h => by
      have := congrArg List.length h
      simp at this
      simp at hc
      omega)
    have hrv : rvOf l (a : Int) = (0, 0, false) := by
      unfold rvOf
      split
      · rw [Int.toNat_natCast, hleb]
        rfl
      · rfl
    rw [hrv]
    rfl
  · have hle : (vt t.length).length ≤ (l.drop a).length := by omega
    have hp : l.drop a = vt t.length ++ (l.drop a).drop (vt t.length).length := by
      have : (l.drop a).take (vt t.length).length = vt t.length := by
        have e := congrArg (List.take (vt t.length).length) hl
        rw [List.take_append_of_le_length hle, frameL, List.append_assoc, List.take_append_of_le_length (Nat.le_refl _), List.take_length] at e
        exact e.symm
      conv => lhs; rw [← List.take_append_drop (vt t.length).length (l.drop a), this]
    have hleb : leb 5 (l.drop a) = some (t.length, (vt t.length).length) := by
      rw [hp]
      exact leb_vt 5 t.length _ (by omega)
    rw [List.length_drop] at hle
    have hrv : rvOf l (a : Int) = ((t.length : Int), ((a + (vt t.length).length : Nat) : Int), true) := by
      unfold rvOf
      rw [if_pos (by omega), Int.toNat_natCast, hleb]
      simp only [rvFin]
      rw [if_pos ⟨by omega, trivial⟩]
    rw [hrv]
    dsimp only
    rw [if_neg (fun h => by omega)]
theorem unf_whole (l : List UInt8) : ∀ (ts : List (List UInt8)) (f a : Nat) (r : List UInt8), l.drop a = ts.flatMap frameL ++ r → (∀ t ∈ ts, 1 ≤ t.length ∧ t.length ≤ 9000) → ts.length < f →
    ufStep l (a + (ts.flatMap frameL).length) = none → unf l f a = (ts.map mk, a + (ts.flatMap frameL).length)
  | [], f, a, r, hl, ht, hf, hn => by
    obtain ⟨f, rfl⟩ : ∃ m, f = m + 1 := ⟨f - 1, by omega⟩
    rw [unf]
    simp only [List.flatMap_nil, List.length_nil, Nat.add_zero] at hn ⊢
    rw [hn]
    rfl
  | t :: ts, f, a, r, hl, ht, hf, hn => by
    obtain ⟨f, rfl⟩ : ∃ m, f = m + 1 := ⟨f - 1, by omega⟩
    have h12 := ht t List.mem_cons_self
    rw [List.flatMap_cons, List.append_assoc] at hl
    rw [List.flatMap_cons, List.length_append] at hn ⊢
    have hstep := ufStep_whole hl h12.1 h12.2
    have ih := unf_whole l ts f (a + (frameL t).length) r (by rw [← List.drop_drop, hl, List.drop_left]) (fun x hx => ht x (List.mem_cons_of_mem _ hx)) (by simp at hf; omega) (by rw [Nat.add_assoc]; exact hn)
    rw [unf, hstep]
    dsimp only
    rw [ih]
    simp only [List.map_cons, Nat.add_assoc]
theorem impl_within.is (a lo hi : Int) : impl_within.f a lo hi = some (decide (lo ≤ a ∧ a ≤ hi)) := by
  unfold impl_within.f
  by_cases h : a ≥ lo
  · rw [if_pos h]
    congr 1
    simp only [decide_eq_decide]
    exact ⟨fun h' => ⟨h, h'⟩, fun h' => h'.2⟩
  · rw [if_neg h, decide_eq_false (fun h' => h h'.1)]
theorem impl_VarText.ev0 (n : Nat) : ∀ (acc : List UInt8), n ≤ 9223372036854775807 → acc.length + (vt n).length ≤ 100 → Ev (fun k => impl_VarText.l0 k (n : Int) (nm acc)) (mk (acc ++ vt n), true) := by
  induction n using Nat.strongRecOn with
  | ind n ih =>
    intro acc hn hl
    have hal := nm_length acc
    by_cases h : 127 < n
    · have e1 : Int.tmod (n : Int) 128 = ((n % 128 : Nat) : Int) := tmod_nat n 128
      have e2 : Int.tdiv (n : Int) 128 = ((n / 128 : Nat) : Int) := tdiv_nat n 128
      rw [vt_big h] at hl ⊢
      have e3 : [(wrap64 ((Int.tmod (n : Int) 128) + 128)) % 256] = nm [UInt8.ofNat (n % 128 + 128)] := by
        rw [nm_u8 _ (by omega), e1, w64 (by omega) (by omega)]
        congr 1
        omega
      have := ih (n / 128) (by omega) (acc ++ [UInt8.ofNat (n % 128 + 128)]) (by omega) (by simp at hl ⊢; omega)
      rw [List.append_assoc, List.singleton_append] at this
      refine Ev.step (fun k => ?_) this
      show impl_VarText.l0 (k + 1) _ _ = _
      rw [impl_VarText.l0, if_pos (by omega), if_pos (by simp at hl; omega), e3, e2, w64 (by omega) (by omega), nm_append]
    · refine ⟨1, fun k hk => ?_⟩
      obtain ⟨k, rfl⟩ : ∃ m, k = m + 1 := ⟨k - 1, by omega⟩
      show impl_VarText.l0 (k + 1) _ _ = _
      have e3 : [(n : Int) % 256] = nm [UInt8.ofNat n] := by
        rw [nm_u8 _ (by omega)]
        congr 1
        omega
      rw [vt_small (by omega)] at hl ⊢
      rw [impl_VarText.l0, if_neg (by omega), if_pos (by simp at hl; omega), e3, ← nm_append, strOf_nm]
theorem impl_VarText.ev (n : Int) : Ev (fun k => impl_VarText.f k n) (varOf n) := by
  unfold varOf
  by_cases h : 0 ≤ n ∧ n ≤ 1000000000
  · obtain ⟨m, rfl⟩ := Int.eq_ofNat_of_zero_le h.1
    have hl := vt_len5 (n := m) (by omega)
    obtain ⟨K, hK⟩ := impl_VarText.ev0 m [] (by omega) (by simp; omega)
    dsimp only at hK
    refine ⟨K, fun k hk => ?_⟩
    show impl_VarText.f k _ = _
    unfold impl_VarText.f
    rw [impl_within.is, decide_eq_true h, if_pos h]
    simp only [Option.bind_some, if_true]
    rw [nm_nil, hK k hk]
    rfl
  · refine ⟨0, fun k hk => ?_⟩
    show impl_VarText.f k _ = _
    unfold impl_VarText.f
    rw [impl_within.is, decide_eq_false h, if_neg h]
    rfl
theorem impl_SumMore.ev1 (l : List UInt8) (i : Nat) (hi : i < l.length) (hs : l.length ≤ 140737488351232) (r : Int) (d : Nat) :
    ∀ (x j : Nat), x < 4294967296 → j + d = 8 → Ev (fun k => impl_SumMore.l0 k ((crcBits d x : Nat) : Int) (mk l) ((i + 1 : Nat) : Int)) r → Ev (fun k => impl_SumMore.l1 k (x : Int) (mk l) (i : Int) (j : Int)) r := by
  induction d with
  | zero =>
    intro x j hx hj h
    refine Ev.step (fun k => ?_) h
    show impl_SumMore.l1 (k + 1) _ _ _ _ = _
    rw [impl_SumMore.l1]
    rw [if_neg (by omega), w64 (by omega) (by omega)]
    rfl
  | succ d ih =>
    intro x j hx hj h
    refine Ev.step (fun k => ?_) (ih (crcBit x) (j + 1) (crcBit_lt hx) (by omega) h)
    show impl_SumMore.l1 (k + 1) _ _ _ _ = _
    rw [impl_SumMore.l1]
    have e1 : Int.tmod (x : Int) 2 = ((x % 2 : Nat) : Int) := tmod_nat x 2
    have e2 : Int.tdiv (x : Int) 2 = ((x / 2 : Nat) : Int) := tdiv_nat x 2
    rw [if_pos (by omega), w64 (x := (j : Int) + 1) (by omega) (by omega), e1, e2, show ((x / 2 : Nat) : Int) % 4294967296 = ((x / 2 : Nat) : Int) by omega]
    unfold crcBit
    by_cases hb : x % 2 = 1
    · rw [if_pos (by omega), if_pos hb, show (3558460437 : Int) = ((3558460437 : Nat) : Int) from rfl, u32_xor_nat _ _ (by omega) (by omega)]
      rfl
    · rw [if_neg (by omega), if_neg hb]
      rfl
theorem impl_SumMore.ev0 (l : List UInt8) (hs : l.length ≤ 140737488351232) (d : Nat) :
    ∀ (i x : Nat), x < 4294967296 → i + d = l.length → Ev (fun k => impl_SumMore.l0 k (x : Int) (mk l) (i : Int)) ((crcL x (l.drop i) : Nat) : Int) := by
  have hsz := mk_size l
  induction d with
  | zero =>
    intro i x hx hi
    refine ⟨1, fun k hk => ?_⟩
    obtain ⟨k, rfl⟩ : ∃ m, k = m + 1 := ⟨k - 1, by omega⟩
    show impl_SumMore.l0 (k + 1) _ _ _ = _
    rw [impl_SumMore.l0]
    rw [if_neg (by omega), List.drop_eq_nil_of_le (by omega)]
    rfl
  | succ d ih =>
    intro i x hx hi
    have hlt : i < l.length := by omega
    have hb : (l[i]).toNat < 256 := (l[i]).toNat_lt
    have hx2 : x ^^^ (l[i]).toNat < 4294967296 := xor_lt32 hx (by omega)
    rw [drop_cons l i hlt, crcL_cons]
    refine Ev.step (fun k => ?_) (impl_SumMore.ev1 l i hlt hs _ 8 (x ^^^ (l[i]).toNat) 0 hx2 (by omega) (ih (i + 1) _ (crcBits_lt 8 hx2) (by omega)))
    show impl_SumMore.l0 (k + 1) _ _ _ = _
    rw [impl_SumMore.l0]
    rw [if_pos (by omega), if_pos (by omega), bt_mk l i hlt, show (((l[i]).toNat : Nat) : Int) % 4294967296 = ((l[i]).toNat : Int) by omega, u32_xor_nat _ _ hx (by omega)]
    rfl
theorem impl_SumMore.ev (l : List UInt8) (hs : l.length ≤ 140737488351232) (x : Nat) (hx : x < 4294967296) : Ev (fun k => impl_SumMore.f k (x : Int) (mk l)) ((crcL x l : Nat) : Int) :=
  impl_SumMore.ev0 l hs l.length 0 x hx (by omega)
theorem impl_SumOf.ev (l : List UInt8) (hs : l.length ≤ 140737488351232) : Ev (fun k => impl_SumOf.f k (mk l)) ((crc l : Nat) : Int) := by
  obtain ⟨K, h⟩ := impl_SumMore.ev l hs 4294967295 (by omega)
  dsimp only at h
  refine ⟨K, fun k hk => ?_⟩
  show impl_SumOf.f k _ = _
  unfold impl_SumOf.f
  rw [show (4294967295 : Int) = ((4294967295 : Nat) : Int) from rfl, h k hk]
  rfl
theorem impl_Frame.ev (l : List UInt8) (hs : l.length ≤ 140737488351232) : Ev (fun k => impl_Frame.f k (mk l)) (frameOf l) := by
  have hsz := mk_size l
  have hv := vt_len8 (n := l.length) (by omega)
  obtain ⟨K1, h1⟩ := impl_VarText.ev (l.length : Int)
  obtain ⟨K2, h2⟩ := impl_SumOf.ev l hs
  dsimp only at h1 h2
  refine ⟨K1 + K2, fun k hk => ?_⟩
  show impl_Frame.f k _ = _
  unfold impl_Frame.f frameOf
  rw [hsz, impl_within.is]
  by_cases h : 1 ≤ (l.length : Int) ∧ (l.length : Int) ≤ 9000
  · rw [decide_eq_true h, if_pos h, Option.bind_some, if_pos rfl, h1 k (by omega), Option.bind_some, h2 k (by omega), Option.bind_some, Option.bind_some, four_nm, strOf_nm]
    unfold varOf
    rw [if_pos (show 0 ≤ (l.length : Int) ∧ (l.length : Int) ≤ 1000000000 by omega), Int.toNat_natCast]
    dsimp only
    rw [if_pos (by rw [mk_size, mk_size, four_len4]; omega), mk_append, if_pos (by rw [mk_size, List.length_append, four_len4]; omega), mk_append]
    rfl
  · rw [decide_eq_false h, if_neg h]
    rfl
theorem shl_digit (m i : Nat) (h : i ≤ 4) : shl .i64 ((m % 128 : Nat) : Int) (wrap64 (7 * (i : Int))) = ((dg m i : Nat) : Int) := by
  have e : ∀ j : Nat, j ≤ 28 → shl .i64 ((m % 128 : Nat) : Int) (j : Int) = ((m % 128 : Nat) : Int) * 2 ^ j := by
    intro j hj
    unfold shl
    rw [Int.toNat_natCast, Nat.min_eq_left (show j ≤ IntKind.i64.bits by simp [IntKind.bits]; omega), IntKind.wrap_i64]
    have h2 : 2 ^ j ≤ 2 ^ 28 := Nat.pow_le_pow_right (by omega) hj
    have h4 : m % 128 * 2 ^ j ≤ 127 * 268435456 := Nat.mul_le_mul (by omega) h2
    have h5 : ((m % 128 : Nat) : Int) * 2 ^ j = ((m % 128 * 2 ^ j : Nat) : Int) := by rw [Int.natCast_mul, Int.natCast_pow]; rfl
    rw [h5]
    omega
  rw [w64 (by omega) (by omega), show (7 : Int) * (i : Int) = ((7 * i : Nat) : Int) by omega, e (7 * i) (by omega)]
  unfold dg pw
  rw [Int.natCast_mul, Int.natCast_pow, show (128 : Nat) = 2 ^ 7 from rfl, Int.natCast_pow, ← Int.pow_mul]
  rfl
theorem impl_ReadVar.ev0 (l : List UInt8) (a : Nat) (ha : a ≤ l.length) (hs : l.length ≤ 140737488351232) (f : Nat) : ∀ (i n0 : Nat), i + f = 5 → a + i ≤ l.length → n0 < pw i →
    Ev (fun k => impl_ReadVar.l0 k (mk l) (a : Int) (n0 : Int) (i : Int)) (rvFin a (lebOn n0 i (leb f (l.drop (a + i))))) := by
  have hsz := mk_size l
  induction f with
  | zero =>
    intro i n0 hi hal hn
    refine ⟨2, fun k hk => ?_⟩
    obtain ⟨k, rfl⟩ : ∃ m, k = m + 2 := ⟨k - 2, by omega⟩
    show impl_ReadVar.l0 (k + 2) _ _ _ _ = _
    rw [impl_ReadVar.l0, if_neg (by omega), impl_ReadVar.j1, if_neg (by simp)]
    rfl
  | succ f ih =>
    intro i n0 hi hal hn
    have hp := pw_le5 (i := i) (by omega)
    have ew : Hd (wrap64 ((a : Int) + (i : Int)) = ((a + i : Nat) : Int)) := Hd.mk <| by rw [w64 (by omega) (by omega)]; omega
    by_cases hlt : a + i < l.length
    · have hb : (l[a + i]).toNat < 256 := (l[a + i]).toNat_lt
      have eb : Hd (wrap64 (bt (mk l) ((a + i : Nat) : Int)) = ((l[a + i]).toNat : Int)) := Hd.mk <| by rw [bt_mk l _ hlt, w64 (by omega) (by omega)]
      have e1 : Hd (Int.tmod ((l[a + i]).toNat : Int) 128 = (((l[a + i]).toNat % 128 : Nat) : Int)) := Hd.mk <| tmod_nat _ 128
      have hd := dg_le (l[a + i]).toNat i (by omega)
      have e2 := shl_digit (l[a + i]).toNat i (by omega)
      have e3 : Hd (wrap64 ((n0 : Int) + ((dg (l[a + i]).toNat i : Nat) : Int)) = ((n0 + dg (l[a + i]).toNat i : Nat) : Int)) := Hd.mk <| by rw [w64 (by omega) (by omega)]; omega
      rw [drop_cons l (a + i) hlt]
      by_cases h128 : (l[a + i]).toNat < 128
      · rw [lebOn_last _ _ _ _ _ h128]
        obtain ⟨K, hK⟩ := impl_VarText.ev ((n0 + dg (l[a + i]).toNat i : Nat) : Int)
        dsimp only at hK
        refine ⟨K + 2, fun k hk => ?_⟩
        obtain ⟨k, rfl⟩ : ∃ m, k = m + 2 := ⟨k - 2, by omega⟩
        show impl_ReadVar.l0 (k + 2) _ _ _ _ = _
        rw [impl_ReadVar.l0, if_pos (by omega), ew.out, decide_eq_true (show ((a + i : Nat) : Int) < ((mk l).size : Int) by omega), impl_ReadVar.j1, if_pos rfl, ew.out, if_pos (by omega), if_pos (by omega),
          if_pos (by rw [w64 (by omega) (by omega)]; omega), eb.out, if_pos (by omega), e1.out, e2, e3.out, hK k (by omega), Option.bind_some]
        unfold varOf
        simp only [rvFin]
        by_cases hm : n0 + dg (l[a + i]).toNat i ≤ 1000000000
        · rw [if_pos (show 0 ≤ ((n0 + dg (l[a + i]).toNat i : Nat) : Int) ∧ ((n0 + dg (l[a + i]).toNat i : Nat) : Int) ≤ 1000000000 by omega)]
          simp only [if_true]
          rw [Int.toNat_natCast, mk_size, w64 (x := (i : Int) + 1) (by omega) (by omega)]
          by_cases hv : (vt (n0 + dg (l[a + i]).toNat i)).length = i + 1
          · rw [if_pos (by omega), if_pos ⟨hm, hv⟩, w64 (by omega) (by omega)]
            rfl
          · rw [if_neg (by omega), if_neg (fun h => hv h.2)]
        · rw [if_neg (show ¬ (0 ≤ ((n0 + dg (l[a + i]).toNat i : Nat) : Int) ∧ ((n0 + dg (l[a + i]).toNat i : Nat) : Int) ≤ 1000000000) by omega)]
          dsimp only
          rw [if_neg (by simp), if_neg (fun h => hm h.1)]
      · rw [lebOn_step _ _ _ _ _ h128]
        have hp2 : n0 + dg (l[a + i]).toNat i < pw (i + 1) := dg_lt hn
        obtain ⟨K, hK⟩ := ih (i + 1) _ (by omega) (by omega) hp2
        dsimp only at hK
        refine ⟨K + 2, fun k hk => ?_⟩
        obtain ⟨k, rfl⟩ : ∃ m, k = m + 2 := ⟨k - 2, by omega⟩
        show impl_ReadVar.l0 (k + 2) _ _ _ _ = _
        rw [impl_ReadVar.l0, if_pos (by omega), ew.out, decide_eq_true (show ((a + i : Nat) : Int) < ((mk l).size : Int) by omega), impl_ReadVar.j1, if_pos rfl, ew.out, if_pos (by omega), if_pos (by omega),
          if_pos (by rw [w64 (by omega) (by omega)]; omega), eb.out, if_neg (by omega), e1.out, e2, e3.out, w64 (x := (i : Int) + 1) (by omega) (by omega)]
        exact hK k (by omega)
    · rw [List.drop_eq_nil_of_le (by omega)]
      refine ⟨2, fun k hk => ?_⟩
      obtain ⟨k, rfl⟩ : ∃ m, k = m + 2 := ⟨k - 2, by omega⟩
      show impl_ReadVar.l0 (k + 2) _ _ _ _ = _
      rw [impl_ReadVar.l0, if_pos (by omega), ew.out, decide_eq_false (show ¬ ((a + i : Nat) : Int) < ((mk l).size : Int) by omega), impl_ReadVar.j1, if_neg (by simp)]
      rfl
theorem impl_ReadVar.ev (l : List UInt8) (hs : l.length ≤ 140737488351232) (a : Int) : Ev (fun k => impl_ReadVar.f k (mk l) a) (rvOf l a) := by
  have hsz := mk_size l
  unfold rvOf
  by_cases h : 0 ≤ a ∧ a ≤ l.length
  · obtain ⟨n, rfl⟩ := Int.eq_ofNat_of_zero_le h.1
    obtain ⟨K, hK⟩ := impl_ReadVar.ev0 l n (by omega) hs 5 0 0 (by omega) (by omega) (pw_pos 0)
    rw [lebOn_zero] at hK
    dsimp only at hK
    refine ⟨K, fun k hk => ?_⟩
    show impl_ReadVar.f k _ _ = _
    unfold impl_ReadVar.f
    rw [hsz, impl_within.is, decide_eq_true h, if_pos h]
    exact hK k hk
  · refine ⟨0, fun k hk => ?_⟩
    show impl_ReadVar.f k _ _ = _
    unfold impl_ReadVar.f
    rw [hsz, impl_within.is, decide_eq_false h, if_neg h]
    rfl
theorem impl_Unframe.ev0 (l : List UInt8) (hs : l.length ≤ 20000) (f : Nat) : ∀ (a : Nat) (acc : List ByteArray), a ≤ l.length → l.length < f + a → acc.length ≤ a →
    Ev (fun k => impl_Unframe.l0 k (mk l) acc (a : Int)) (acc ++ (unf l f a).1, ((unf l f a).2 : Int)) := by
  have hsz := mk_size l
  induction f with
  | zero => intro a acc ha hf hacc; omega
  | succ f ih =>
    intro a acc ha hf hacc
    obtain ⟨K1, h1⟩ := impl_ReadVar.ev l (by omega) (a : Int)
    dsimp only at h1
    by_cases hr : (rvOf l (a : Int)).2.2 = true
    · obtain ⟨n, c, m, hm, e, g1, g2, g3, g4, g5, g6⟩ := rvOf_facts l a hr
      obtain rfl : a = m := by omega
      have e1 : Hd (wrap64 (((mk l).size : Int) - ((a + c : Nat) : Int)) = ((l.length - (a + c) : Nat) : Int)) := Hd.mk <| by rw [w64 (by omega) (by omega)]; omega
      have e2 : Hd (wrap64 (((l.length - (a + c) : Nat) : Int) - 4) = ((l.length - (a + c) : Nat) : Int) - 4) := Hd.mk <| w64 (by omega) (by omega)
      have e3 : Hd (wrap64 (((a + c : Nat) : Int) + 4) = ((a + c + 4 : Nat) : Int)) := Hd.mk <| by rw [w64 (by omega) (by omega)]; omega
      by_cases hn : a + c + 4 + n ≤ l.length
      · have e4 : Hd (wrap64 (((a + c + 4 : Nat) : Int) + (n : Int)) = ((a + c + 4 + n : Nat) : Int)) := Hd.mk <| by rw [w64 (by omega) (by omega)]; omega
        have x1 : (mk l).extract (((a + c + 4 : Nat) : Int)).toNat (((a + c + 4 + n : Nat) : Int)).toNat = mk ((l.drop (a + c + 4)).take n) := by
          rw [mk_extract, Int.toNat_natCast, Int.toNat_natCast]; congr 2; omega
        have x2 : (mk l).extract ((a : Int)).toNat (((a + c + 4 + n : Nat) : Int)).toNat = mk ((l.drop a).take (a + c + 4 + n - a)) := by
          rw [mk_extract, Int.toNat_natCast, Int.toNat_natCast]
        obtain ⟨K2, h2⟩ := impl_Frame.ev ((l.drop (a + c + 4)).take n) (by simp; omega)
        dsimp only at h2
        have us : ufStep l a = if (frameOf ((l.drop (a + c + 4)).take n)).2 = true ∧ (frameOf ((l.drop (a + c + 4)).take n)).1 = mk ((l.drop a).take (a + c + 4 + n - a)) then some ((l.drop (a + c + 4)).take n, a + c + 4 + n) else none := by
          unfold ufStep
          rw [e]
          dsimp only
          rw [if_pos ⟨rfl, by omega⟩]
          simp only [Int.toNat_natCast]
        by_cases hfr : (frameOf ((l.drop (a + c + 4)).take n)).2 = true
        · by_cases heq : (frameOf ((l.drop (a + c + 4)).take n)).1 = mk ((l.drop a).take (a + c + 4 + n - a))
          · rw [if_pos ⟨hfr, heq⟩] at us
            obtain ⟨K3, h3⟩ := ih (a + c + 4 + n) (acc ++ [mk ((l.drop (a + c + 4)).take n)]) hn (by omega) (by simp; omega)
            dsimp only at h3
            refine ⟨K1 + K2 + K3 + 2, fun k hk => ?_⟩
            obtain ⟨k, rfl⟩ : ∃ m, k = m + 2 := ⟨k - 2, by omega⟩
            show impl_Unframe.l0 (k + 2) _ _ _ = _
            rw [impl_Unframe.l0, h1 _ (by omega), Option.bind_some, e]
            dsimp only
            rw [if_pos rfl, e1.out, e2.out, decide_eq_false (by omega), impl_Unframe.j1, if_neg (by simp), e3.out, e4.out, if_pos (by omega), if_pos (by omega), if_pos (by omega), x1, h2 _ (by omega), Option.bind_some, if_pos hfr,
              if_pos (by omega), if_pos (by omega), x2, if_pos (by rw [heq]), if_pos (by omega), h3 _ (by omega), unf, us]
            simp
          · rw [if_neg (fun h' => heq h'.2)] at us
            refine ⟨K1 + K2 + 2, fun k hk => ?_⟩
            obtain ⟨k, rfl⟩ : ∃ m, k = m + 2 := ⟨k - 2, by omega⟩
            show impl_Unframe.l0 (k + 2) _ _ _ = _
            rw [impl_Unframe.l0, h1 _ (by omega), Option.bind_some, e]
            dsimp only
            rw [if_pos rfl, e1.out, e2.out, decide_eq_false (by omega), impl_Unframe.j1, if_neg (by simp), e3.out, e4.out, if_pos (by omega), if_pos (by omega), if_pos (by omega), x1, h2 _ (by omega), Option.bind_some, if_pos hfr,
              if_pos (by omega), if_pos (by omega), x2, if_neg (fun h' => heq (by rw [ByteArray.toList_eq, ByteArray.toList_eq] at h'; exact ByteArray.ext (Array.ext' h'))), unf, us]
            simp
        · rw [if_neg (fun h' => hfr h'.1)] at us
          refine ⟨K1 + K2 + 2, fun k hk => ?_⟩
          obtain ⟨k, rfl⟩ : ∃ m, k = m + 2 := ⟨k - 2, by omega⟩
          show impl_Unframe.l0 (k + 2) _ _ _ = _
          rw [impl_Unframe.l0, h1 _ (by omega), Option.bind_some, e]
          dsimp only
          rw [if_pos rfl, e1.out, e2.out, decide_eq_false (by omega), impl_Unframe.j1, if_neg (by simp), e3.out, e4.out, if_pos (by omega), if_pos (by omega), if_pos (by omega), x1, h2 _ (by omega), Option.bind_some, if_neg hfr, unf, us]
          simp
      · have us : ufStep l a = none := by
          unfold ufStep
          rw [e]
          dsimp only
          rw [if_neg (fun h' => hn (by omega))]
        refine ⟨K1 + 2, fun k hk => ?_⟩
        obtain ⟨k, rfl⟩ : ∃ m, k = m + 2 := ⟨k - 2, by omega⟩
        show impl_Unframe.l0 (k + 2) _ _ _ = _
        rw [impl_Unframe.l0, h1 _ (by omega), Option.bind_some, e]
        dsimp only
        rw [if_pos rfl, e1.out, e2.out, decide_eq_true (by omega), impl_Unframe.j1, if_pos rfl, unf, us]
        simp
    · have us : ufStep l a = none := by
        unfold ufStep
        rw [show rvOf l (a : Int) = ((rvOf l (a : Int)).1, (rvOf l (a : Int)).2.1, (rvOf l (a : Int)).2.2) from rfl]
        dsimp only
        rw [if_neg (fun h' => hr h'.1)]
      refine ⟨K1 + 2, fun k hk => ?_⟩
      obtain ⟨k, rfl⟩ : ∃ m, k = m + 2 := ⟨k - 2, by omega⟩
      show impl_Unframe.l0 (k + 2) _ _ _ = _
      rw [impl_Unframe.l0, h1 _ (by omega), Option.bind_some, if_neg hr, impl_Unframe.j1, if_pos rfl, unf, us]
      simp
theorem impl_Unframe.ev (l : List UInt8) (hs : l.length ≤ 140737488351232) : Ev (fun k => impl_Unframe.f k (mk l)) (unfOf l) := by
  have hsz := mk_size l
  unfold unfOf
  by_cases hc : l.length ≤ 20000
  · obtain ⟨K, hK⟩ := impl_Unframe.ev0 l hc (l.length + 1) 0 [] (by omega) (by omega) (by simp)
    dsimp only at hK
    refine ⟨K, fun k hk => ?_⟩
    show impl_Unframe.f k _ = _
    unfold impl_Unframe.f
    try simp only [Option.bind_some]
    rw [if_neg (by omega), if_pos hc]
    exact hK k hk
  · refine ⟨0, fun k hk => ?_⟩
    show impl_Unframe.f k _ = _
    unfold impl_Unframe.f
    try simp only [Option.bind_some]
    rw [if_pos (by omega), if_neg hc]
theorem rdS_nat (l : List ByteArray) (n : Nat) (h : n < l.length) : rdOf ByteArray.empty l (n : Int) = l[n] := by
  show l.getD n ByteArray.empty = _
  simp [List.getD_eq_getElem?_getD, List.getElem?_eq_getElem h]
theorem toList_inj {a b : ByteArray} : a.toList = b.toList ↔ a = b := by
  constructor
  · intro h
    rw [ByteArray.toList_eq, ByteArray.toList_eq] at h
    exact ByteArray.ext (Array.ext' h)
  · rintro rfl; rfl
theorem laws_sameTexts.ev0 (a b : List ByteArray) (hs : a.length ≤ 8796093022208) (hab : a.length = b.length) (d : Nat) : ∀ (i : Nat), i + d = a.length →
    Ev (fun k => laws_sameTexts.l0 k a b (i : Int)) (decide (a.drop i = b.drop i)) := by
  induction d with
  | zero =>
    intro i hi
    refine ⟨1, fun k hk => ?_⟩
    obtain ⟨k, rfl⟩ : ∃ m, k = m + 1 := ⟨k - 1, by omega⟩
    show laws_sameTexts.l0 (k + 1) _ _ _ = _
    rw [laws_sameTexts.l0, if_neg (by omega), List.drop_eq_nil_of_le (by omega), List.drop_eq_nil_of_le (by omega)]
    rfl
  | succ d ih =>
    intro i hi
    have ed : decide (a.drop i = b.drop i) = (decide (a[i]'(by omega) = b[i]'(by omega)) && decide (a.drop (i + 1) = b.drop (i + 1))) := by
      rw [List.drop_eq_getElem_cons (show i < a.length by omega), List.drop_eq_getElem_cons (show i < b.length by omega), ← Bool.decide_and, decide_eq_decide]
      exact List.cons_eq_cons
    rw [ed]
    have ea := rdS_nat a i (by omega)
    have eb := rdS_nat b i (by omega)
    by_cases h : a[i]'(by omega) = b[i]'(by omega)
    · rw [decide_eq_true h, Bool.true_and]
      refine Ev.step (fun k => ?_) (ih (i + 1) (by omega))
      show laws_sameTexts.l0 (k + 1) _ _ _ = laws_sameTexts.l0 k _ _ _
      rw [laws_sameTexts.l0, if_pos (by omega), if_pos (by omega), if_pos (by omega), ea, eb, if_pos (toList_inj.2 h), w64 (by omega) (by omega)]
      rfl
    · refine ⟨1, fun k hk => ?_⟩
      obtain ⟨k, rfl⟩ : ∃ m, k = m + 1 := ⟨k - 1, by omega⟩
      show laws_sameTexts.l0 (k + 1) _ _ _ = _
      rw [laws_sameTexts.l0, if_pos (by omega), if_pos (by omega), if_pos (by omega), ea, eb, if_neg (fun h' => h (toList_inj.1 h')), decide_eq_false h, Bool.false_and]
theorem laws_sameTexts.ev (a b : List ByteArray) (hs : a.length ≤ 8796093022208) : Ev (fun k => laws_sameTexts.f k a b) (decide (a = b)) := by
  by_cases hab : a.length = b.length
  · obtain ⟨K, h⟩ := laws_sameTexts.ev0 a b hs hab a.length 0 (by omega)
    dsimp only at h
    refine ⟨K, fun k hk => ?_⟩
    show laws_sameTexts.f k _ _ = _
    unfold laws_sameTexts.f
    rw [if_pos (by omega)]
    exact h k hk
  · refine ⟨0, fun k hk => ?_⟩
    show laws_sameTexts.f k _ _ = _
    unfold laws_sameTexts.f
    rw [if_neg (by omega), decide_eq_false (fun h => hab (by rw [h]))]
theorem spec_l01New.ev0 (l : List Int) (hs : l.length ≤ 1048576) (d : Nat) : ∀ (i : Nat) (h : Int), i + d = l.length → ∃ h', Ev (fun k => spec_l01New.l0 k l h (i : Int)) (l, 0, h') := by
  induction d with
  | zero =>
    intro i h hi
    refine ⟨h, 1, fun k hk => ?_⟩
    obtain ⟨k, rfl⟩ : ∃ m, k = m + 1 := ⟨k - 1, by omega⟩
    show spec_l01New.l0 (k + 1) _ _ _ = _
    rw [spec_l01New.l0, if_neg (by omega)]
  | succ d ih =>
    intro i h hi
    by_cases hc : i < 4000
    · have e3 : Hd (wrap64 ((i : Int) + 1) = ((i + 1 : Nat) : Int)) := Hd.mk <| by rw [w64 (by omega) (by omega)]; rfl
      obtain ⟨h', hh⟩ := ih (i + 1) (Go.bits .and .i64 (wrap64 ((wrap64 ((wrap64 (h * 131)) + (wrap64 (rd l (i : Int))))) + 7)) 1073741823) (by omega)
      refine ⟨h', Ev.step (fun k => ?_) hh⟩
      show spec_l01New.l0 (k + 1) _ _ _ = _
      rw [spec_l01New.l0, if_pos (by omega), if_pos (by omega), if_pos (by omega), e3.out]
    · refine ⟨h, 1, fun k hk => ?_⟩
      obtain ⟨k, rfl⟩ : ∃ m, k = m + 1 := ⟨k - 1, by omega⟩
      show spec_l01New.l0 (k + 1) _ _ _ = _
      rw [spec_l01New.l0, if_pos (by omega), if_neg (by omega)]
theorem spec_l01New.ev (l : List Int) (hs : l.length ≤ 1048576) : ∃ h, Ev (fun k => spec_l01New.f k l) (l, 0, h) := by
  obtain ⟨h, hh⟩ := spec_l01New.ev0 l hs l.length 0 (wrap64 (10301 + (l.length : Int))) (by omega)
  exact ⟨h, hh⟩
theorem i64_and255 (n : Int) : Go.bits .and .i64 n 255 = n % 256 := by
  have h255 : (BitVec.ofInt 64 255).toNat = 2 ^ 8 - 1 := by decide
  have key : (BitVec.ofInt 64 n &&& BitVec.ofInt 64 255).toNat = (n % ((2 ^ 64 : Nat) : Int)).toNat % 2 ^ 8 := by
    rw [BitVec.toNat_and, BitVec.toNat_ofInt, h255, Nat.and_two_pow_sub_one_eq_mod]
  show IntKind.i64.wrap ((BitVec.ofInt 64 n &&& BitVec.ofInt 64 255).toNat : Nat) = n % 256
  rw [key, IntKind.wrap_i64]
  omega
theorem spec_l01Byte.is (b : List Int) (hs : b.length ≤ 1048576) (i h : Int) (h0 : 0 ≤ i) (h1 : i ≤ b.length) : ∃ v i' h', spec_l01Byte.f b i h = some (v, i', h') ∧ 0 ≤ v ∧ v ≤ 255 ∧ 0 ≤ i' ∧ i' ≤ b.length := by
  unfold spec_l01Byte.f
  by_cases hc : i < (b.length : Int)
  · rw [if_pos hc, if_pos h0, i64_and255]
    exact ⟨_, _, _, rfl, by omega, by omega, by rw [w64 (by omega) (by omega)]; omega, by rw [w64 (by omega) (by omega)]; omega⟩
  · rw [if_neg hc, i64_and255]
    exact ⟨_, _, _, rfl, by omega, by omega, h0, h1⟩
theorem tmod_in {x n : Int} (h0 : 0 ≤ x) (hn : 0 < n) : 0 ≤ Int.tmod x n ∧ Int.tmod x n < n := by
  rw [Int.tmod_eq_emod_of_nonneg h0]
  exact ⟨Int.emod_nonneg _ (by omega), Int.emod_lt_of_pos _ hn⟩
theorem spec_l01Below.is (b : List Int) (hs : b.length ≤ 1048576) (i h n : Int) (h0 : 0 ≤ i) (h1 : i ≤ b.length) : ∃ v i' h', spec_l01Below.f b i h n = some (v, i', h') ∧ 0 ≤ v ∧ (n ≤ 0 → v = 0) ∧ (0 < n → v < n) ∧ 0 ≤ i' ∧ i' ≤ b.length := by
  unfold spec_l01Below.f
  by_cases hc : n ≤ 0
  · rw [if_pos hc]
    exact ⟨_, _, _, rfl, by omega, fun _ => rfl, fun h => by omega, h0, h1⟩
  · rw [if_neg hc]
    by_cases hd : n ≤ 256
    · obtain ⟨v, i', h', e, g0, g1, g2, g3⟩ := spec_l01Byte.is b hs i h h0 h1
      rw [if_pos hd, e, Option.bind_some, if_neg (by omega)]
      have := tmod_in g0 (show 0 < n by omega)
      exact ⟨_, _, _, rfl, this.1, fun h => by omega, fun _ => this.2, g2, g3⟩
    · obtain ⟨v1, i1, s1, e1, a1, b1, c1, d1⟩ := spec_l01Byte.is b hs i h h0 h1
      obtain ⟨v2, i2, s2, e2, a2, b2, c2, d2⟩ := spec_l01Byte.is b hs i1 s1 c1 d1
      obtain ⟨v3, i3, s3, e3, a3, b3, c3, d3⟩ := spec_l01Byte.is b hs i2 s2 c2 d2
      obtain ⟨v4, i4, s4, e4, a4, b4, c4, d4⟩ := spec_l01Byte.is b hs i3 s3 c3 d3
      rw [if_neg hd, e1, Option.bind_some]
      dsimp only
      rw [e2, Option.bind_some]
      dsimp only
      rw [e3, Option.bind_some]
      dsimp only
      rw [e4, Option.bind_some, if_neg (by omega)]
      have hw : 0 ≤ wrap64 ((wrap64 ((wrap64 ((wrap64 (v1 * 16777216)) + (wrap64 (v2 * 65536)))) + (wrap64 (v3 * 256)))) + v4) := by
        rw [w64 (x := v1 * 16777216) (by omega) (by omega), w64 (x := v2 * 65536) (by omega) (by omega), w64 (x := v3 * 256) (by omega) (by omega), w64 (x := v1 * 16777216 + v2 * 65536) (by omega) (by omega),
          w64 (x := v1 * 16777216 + v2 * 65536 + v3 * 256) (by omega) (by omega), w64 (by omega) (by omega)]
        omega
      have := tmod_in hw (show 0 < n by omega)
      exact ⟨_, _, _, rfl, this.1, fun h => by omega, fun _ => this.2, c4, d4⟩
theorem spec_DrawPlaces.ev0 (b : List Int) (hs : b.length ≤ 1048576) (d : Nat) : ∀ (j : Nat) (acc : List Int) (i h : Int), j + d = 12 → acc.length = j → (∀ x ∈ acc, 0 ≤ x ∧ x < 10000) → 0 ≤ i → i ≤ b.length →
    ∃ p : List Int, Ev (fun k => spec_DrawPlaces.l0 k acc (j : Int) b i h) p ∧ p.length = 12 ∧ ∀ x ∈ p, 0 ≤ x ∧ x < 10000 := by
  induction d with
  | zero =>
    intro j acc i h hj hl ha h0 h1
    refine ⟨acc, ⟨1, fun k hk => ?_⟩, by omega, ha⟩
    obtain ⟨k, rfl⟩ : ∃ m, k = m + 1 := ⟨k - 1, by omega⟩
    show spec_DrawPlaces.l0 (k + 1) _ _ _ _ _ = _
    rw [spec_DrawPlaces.l0, if_neg (by omega)]
  | succ d ih =>
    intro j acc i h hj hl ha h0 h1
    obtain ⟨v, i', h', e, g0, _, g1, g2, g3⟩ := spec_l01Below.is b hs i h 10000 h0 h1
    obtain ⟨p, hp, hp1, hp2⟩ := ih (j + 1) (acc ++ [v]) i' h' (by omega) (by simp; omega) (fun x hx => by
      rcases List.mem_append.1 hx with hx | hx
      · exact ha x hx
      · rw [List.mem_singleton.1 hx]
        exact ⟨g0, g1 (by omega)⟩) g2 g3
    have e3 : Hd (wrap64 ((j : Int) + 1) = ((j + 1 : Nat) : Int)) := Hd.mk <| by rw [w64 (by omega) (by omega)]; rfl
    refine ⟨p, Ev.step (fun k => ?_) hp, hp1, hp2⟩
    show spec_DrawPlaces.l0 (k + 1) _ _ _ _ _ = spec_DrawPlaces.l0 k _ _ _ _ _
    rw [spec_DrawPlaces.l0, if_pos (by omega), e, Option.bind_some]
    dsimp only
    rw [if_pos (by omega), e3.out]
theorem spec_DrawPlaces.ev (l : List Int) (hs : l.length ≤ 1048576) : ∃ p : List Int, Ev (fun k => spec_DrawPlaces.f k l) p ∧ p.length = 12 ∧ ∀ x ∈ p, 0 ≤ x ∧ x < 10000 := by
  obtain ⟨h, ⟨K1, h1⟩⟩ := spec_l01New.ev l hs
  dsimp only at h1
  obtain ⟨v, i', h', e, _, _, g2, g3⟩ := spec_l01Byte.is l hs 0 h (by omega) (by omega)
  obtain ⟨p, ⟨K2, h2⟩, hp1, hp2⟩ := spec_DrawPlaces.ev0 l hs 12 0 [] i' h' (by omega) rfl (fun x hx => by cases hx) g2 g3
  dsimp only at h2
  refine ⟨p, ⟨K1 + K2, fun k hk => ?_⟩, hp1, hp2⟩
  show spec_DrawPlaces.f k _ = _
  unfold spec_DrawPlaces.f
  rw [h1 k (by omega), Option.bind_some, e, Option.bind_some]
  exact h2 k (by omega)
theorem spec_l01Once.is (b : List Int) (hs : b.length ≤ 1048576) (i h n : Int) (h0 : 0 ≤ i) (h1 : i ≤ b.length) : ∃ v i' h', spec_l01Once.f b i h n = some (v, i', h') ∧ 0 ≤ i' ∧ i' ≤ b.length := by
  obtain ⟨v, i', h', e, _, _, _, g0, g1⟩ := spec_l01Below.is b hs i h n h0 h1
  unfold spec_l01Once.f
  rw [e, Option.bind_some]
  exact ⟨_, _, _, rfl, g0, g1⟩
theorem spec_l01Long.ev0 (n x : Int) (hn : n ≤ 1048576) (d : Nat) : ∀ (j : Nat) (l : List Int), (j : Int) + d = n → (l.length : Int) = n → ∃ l' : List Int, Ev (fun k => spec_l01Long.l0 k n x l (j : Int)) (strOfNums l') ∧ (l'.length : Int) = n := by
  induction d with
  | zero =>
    intro j l hj hl
    refine ⟨l, ⟨1, fun k hk => ?_⟩, hl⟩
    obtain ⟨k, rfl⟩ : ∃ m, k = m + 1 := ⟨k - 1, by omega⟩
    show spec_l01Long.l0 (k + 1) _ _ _ _ = _
    rw [spec_l01Long.l0, if_neg (by omega)]
  | succ d ih =>
    intro j l hj hl
    obtain ⟨l', hh, h'⟩ := ih (j + 1) (l.set j x) (by omega) (by simp; omega)
    have e3 : Hd (wrap64 ((j : Int) + 1) = ((j + 1 : Nat) : Int)) := Hd.mk <| by rw [w64 (by omega) (by omega)]; rfl
    refine ⟨l', Ev.step (fun k => ?_) hh, h'⟩
    show spec_l01Long.l0 (k + 1) _ _ _ _ = spec_l01Long.l0 k _ _ _ _
    rw [spec_l01Long.l0, if_pos (by omega), if_pos (by omega), if_pos (by omega), e3.out]
    rfl
theorem spec_l01Long.ev (n x : Int) (h0 : 0 ≤ n) (hn : n ≤ 1048576) : ∃ t, Ev (fun k => spec_l01Long.f k n x) (mk t) ∧ (t.length : Int) = n := by
  obtain ⟨l', ⟨K, hK⟩, hl⟩ := spec_l01Long.ev0 n x hn n.toNat 0 (List.replicate n.toNat 0) (by omega) (by simp; omega)
  dsimp only at hK
  obtain ⟨t, ht⟩ := mk_of (strOfNums l')
  have hsz : (strOfNums l').size = t.length := by rw [ht, mk_size]
  rw [strOfNums_size] at hsz
  refine ⟨t, ⟨K, fun k hk => ?_⟩, by omega⟩
  show spec_l01Long.f k _ _ = _
  unfold spec_l01Long.f
  rw [if_pos h0, if_pos (by omega), ← ht]
  exact hK k hk
theorem spec_l01Text.ev0 (b : List Int) (hs : b.length ≤ 1048576) (n : Int) (hn : n ≤ 5000) (d : Nat) : ∀ (j : Nat) (acc : List UInt8) (i h : Int), n ≤ (j : Int) + d → j ≤ 5000 → acc.length = j → 0 ≤ i → i ≤ b.length → ((j : Int) ≤ n ∨ j = 0) →
    ∃ t i' h', Ev (fun k => spec_l01Text.l0 k n (nm acc) (j : Int) b i h) (mk t, i', h') ∧ (t.length : Int) = max n 0 ∧ 0 ≤ i' ∧ i' ≤ b.length := by
  induction d with
  | zero =>
    intro j acc i h hj hj2 hacc h0 h1 hjn
    refine ⟨acc, i, h, ⟨1, fun k hk => ?_⟩, by omega, h0, h1⟩
    obtain ⟨k, rfl⟩ : ∃ m, k = m + 1 := ⟨k - 1, by omega⟩
    show spec_l01Text.l0 (k + 1) _ _ _ _ _ _ = _
    rw [spec_l01Text.l0, if_neg (by omega), strOf_nm]
  | succ d ih =>
    intro j acc i h hj hj2 hacc h0 h1 hjn
    by_cases hc : (j : Int) < n
    · obtain ⟨v, i', h', e, g0, g1, g2, g3⟩ := spec_l01Byte.is b hs i h h0 h1
      obtain ⟨vn, rfl⟩ := Int.eq_ofNat_of_zero_le g0
      obtain ⟨t, i2, h2, hh, ht, k0, k1⟩ := ih (j + 1) (acc ++ [UInt8.ofNat vn]) i' h' (by omega) (by omega) (by simp; omega) g2 g3 (by omega)
      have e3 : Hd (wrap64 ((j : Int) + 1) = ((j + 1 : Nat) : Int)) := Hd.mk <| by rw [w64 (by omega) (by omega)]; rfl
      refine ⟨t, i2, h2, Ev.step (fun k => ?_) hh, ht, k0, k1⟩
      show spec_l01Text.l0 (k + 1) _ _ _ _ _ _ = spec_l01Text.l0 k _ _ _ _ _ _
      rw [spec_l01Text.l0, if_pos hc, e, Option.bind_some]
      dsimp only
      rw [if_pos (by rw [nm_length]; omega), e3.out, nm_append, nm_u8 vn (by omega), show ((vn : Int) % 256) = (vn : Int) by omega]
    · refine ⟨acc, i, h, ⟨1, fun k hk => ?_⟩, by omega, h0, h1⟩
      obtain ⟨k, rfl⟩ : ∃ m, k = m + 1 := ⟨k - 1, by omega⟩
      show spec_l01Text.l0 (k + 1) _ _ _ _ _ _ = _
      rw [spec_l01Text.l0, if_neg (by omega), strOf_nm]
theorem spec_l01Text.ev (b : List Int) (hs : b.length ≤ 1048576) (i h n : Int) (h0 : 0 ≤ i) (h1 : i ≤ b.length) :
    ∃ t i' h', Ev (fun k => spec_l01Text.f k b i h n) (mk t, i', h') ∧ (t.length : Int) = max (min n 5000) 0 ∧ 0 ≤ i' ∧ i' ≤ b.length := by
  by_cases hc : n > 5000
  · obtain ⟨t, i', h', ⟨K, hK⟩, ht, k0, k1⟩ := spec_l01Text.ev0 b hs 5000 (by omega) 5000 0 [] i h (by omega) (by omega) rfl h0 h1 (by omega)
    dsimp only at hK
    refine ⟨t, i', h', ⟨K + 1, fun k hk => ?_⟩, by omega, k0, k1⟩
    obtain ⟨k, rfl⟩ : ∃ m, k = m + 1 := ⟨k - 1, by omega⟩
    show spec_l01Text.f (k + 1) _ _ _ _ = _
    unfold spec_l01Text.f
    rw [if_pos hc, spec_l01Text.j0]
    exact hK k (by omega)
  · obtain ⟨t, i', h', ⟨K, hK⟩, ht, k0, k1⟩ := spec_l01Text.ev0 b hs n (by omega) 5000 0 [] i h (by omega) (by omega) rfl h0 h1 (by omega)
    dsimp only at hK
    refine ⟨t, i', h', ⟨K + 1, fun k hk => ?_⟩, by omega, k0, k1⟩
    obtain ⟨k, rfl⟩ : ∃ m, k = m + 1 := ⟨k - 1, by omega⟩
    show spec_l01Text.f (k + 1) _ _ _ _ = _
    unfold spec_l01Text.f
    rw [if_neg hc, spec_l01Text.j0]
    exact hK k (by omega)
theorem spec_DrawHex.ev (l : List Int) (hs : l.length ≤ 1048576) : ∃ t, Ev (fun k => spec_DrawHex.f k l) (mk t) ∧ t.length ≤ 20001 := by
  obtain ⟨h, ⟨K1, h1⟩⟩ := spec_l01New.ev l hs
  dsimp only at h1
  obtain ⟨v, i', h', e, g2, g3⟩ := spec_l01Once.is l hs 0 h 60 (by omega) (by omega)
  cases v with
  | true =>
    obtain ⟨n, i2, s2, e2, a0, _, a1, _, _⟩ := spec_l01Below.is l hs i' h' 2 g2 g3
    have := a1 (by omega)
    obtain ⟨t, ⟨K2, h2⟩, ht⟩ := spec_l01Long.ev (20000 + n) 200 (by omega) (by omega)
    dsimp only at h2
    refine ⟨t, ⟨K1 + K2, fun k hk => ?_⟩, by omega⟩
    show spec_DrawHex.f k _ = _
    unfold spec_DrawHex.f
    rw [h1 k (by omega), Option.bind_some, e, Option.bind_some, if_pos rfl]
    dsimp only
    rw [e2, Option.bind_some, w64 (by omega) (by omega), h2 k (by omega), Option.bind_some]
  | false =>
    obtain ⟨n, i2, s2, e2, a0, _, a1, b0, b1⟩ := spec_l01Below.is l hs i' h' 30 g2 g3
    have := a1 (by omega)
    obtain ⟨t, i3, s3, ⟨K2, h2⟩, ht, _, _⟩ := spec_l01Text.ev l hs i2 s2 n b0 b1
    dsimp only at h2
    refine ⟨t, ⟨K1 + K2, fun k hk => ?_⟩, by omega⟩
    show spec_DrawHex.f k _ = _
    unfold spec_DrawHex.f
    rw [h1 k (by omega), Option.bind_some, e, Option.bind_some, if_neg (by simp)]
    dsimp only
    rw [e2, Option.bind_some]
    dsimp only
    rw [h2 k (by omega), Option.bind_some]
def frTwo : List UInt8 := [116, 119, 111]
def frThree : List UInt8 := [116, 104, 114, 101, 101, 32, 97, 110, 100, 32, 109, 111, 114, 101]
/-- Of frames cut anywhere just the whole ones come back. -/
theorem unf_cut (ts : List (List UInt8)) (ht : ∀ t ∈ ts, 1 ≤ t.length ∧ t.length ≤ 9000) (k : Nat) (hk : k ≤ (ts.flatMap frameL).length) :
    ∃ m, m ≤ ts.length ∧ unf ((ts.flatMap frameL).take k) (((ts.flatMap frameL).take k).length + 1) 0 = ((ts.take m).map mk, ((ts.take m).flatMap frameL).length) ∧ ((ts.take m).flatMap frameL).length ≤ k ∧ (m = ts.length ∨ k < ((ts.take (m + 1)).flatMap frameL).length) := by
  have key : ∀ (ts : List (List UInt8)) (k : Nat), (∀ t ∈ ts, 1 ≤ t.length ∧ t.length ≤ 9000) → k ≤ (ts.flatMap frameL).length → ∃ m r, m ≤ ts.length ∧ (ts.flatMap frameL).take k = (ts.take m).flatMap frameL ++ r ∧ (m = ts.length ∧ r = [] ∨ ∃ t r', t.length ≤ 9000 ∧ frameL t = r ++ r' ∧ r' ≠ [] ∧ ts.take (m + 1) = ts.take m ++ [t]) := by
    intro ts
    induction ts with
    | nil => intro k _ hk; exact ⟨0, [], Nat.le_refl _, by simp, .inl ⟨rfl, rfl⟩⟩
    | cons t ts ih =>
      intro k ht hk
      rw [List.flatMap_cons, List.length_append] at hk
      by_cases hc : (frameL t).length ≤ k
      · obtain ⟨m, r, hm, he, hor⟩ := ih (k - (frameL t).length) (fun x hx => ht x (List.mem_cons_of_mem _ hx)) (by omega)
        refine ⟨m + 1, r, by simp; omega, ?_, ?_⟩
        · rw [List.flatMap_cons, List.take_append, List.take_of_length_le hc, he, List.take_succ_cons, List.flatMap_cons, List.append_assoc]
        · rcases hor with ⟨h1, h2⟩ | ⟨u, r', h1, h2, h3, h4⟩
          · exact .inl ⟨by simp [h1], h2⟩
          · exact .inr ⟨u, r', h1, h2, h3, by rw [List.take_succ_cons, h4, List.take_succ_cons, List.cons_append]⟩
      · refine ⟨0, (frameL t).take k, Nat.zero_le _, ?_, .inr ⟨t, (frameL t).drop k, (ht t List.mem_cons_self).2, (List.take_append_drop k (frameL t)).symm, fun h => ?_, by simp⟩⟩
        · rw [List.flatMap_cons, List.take_append_of_le_length (by omega)]
          simp
        · have := congrArg List.length h
          simp at this
          omega
  obtain ⟨m, r, hm, he, hor⟩ := key ts k ht hk
  have hlen : ((ts.flatMap frameL).take k).length = k := by rw [List.length_take]; omega
  have hlen2 : k = ((ts.take m).flatMap frameL).length + r.length := by rw [← hlen, he, List.length_append]
  have ht' : ∀ t ∈ ts.take m, 1 ≤ t.length ∧ t.length ≤ 9000 := fun x hx => ht x (List.mem_of_mem_take hx)
  have hfl : ∀ us : List (List UInt8), (∀ t ∈ us, 1 ≤ t.length ∧ t.length ≤ 9000) → us.length ≤ (us.flatMap frameL).length := by
    intro us
    induction us with
    | nil => intro _; simp
    | cons u us ih =>
      intro h
      have := ih (fun x hx => h x (List.mem_cons_of_mem _ hx))
      have := (h u List.mem_cons_self).1
      have := frameL_length u
      rw [List.flatMap_cons, List.length_append, List.length_cons]
      omega
  have hm1 := hfl _ ht'
  have hd : ((ts.flatMap frameL).take k).drop (0 + ((ts.take m).flatMap frameL).length) = r := by rw [Nat.zero_add, he, List.drop_left]
  have hnone : ufStep ((ts.flatMap frameL).take k) (0 + ((ts.take m).flatMap frameL).length) = none := by
    rcases hor with ⟨_, rfl⟩ | ⟨u, r', h1, h2, h3, _⟩
    · exact ufStep_end (by rw [List.length_nil] at hlen2; omega)
    · exact ufStep_torn (r := r') (by rw [hd]; exact h2) h3 h1
  refine ⟨m, hm, ?_, by omega, ?_⟩
  · have := unf_whole ((ts.flatMap frameL).take k) (ts.take m) (((ts.flatMap frameL).take k).length + 1) 0 r (by rw [List.drop_zero]; exact he) ht' (by omega) hnone
    rw [Nat.zero_add] at this
    exact this
  · rcases hor with ⟨h1, _⟩ | ⟨u, r', h1, h2, h3, h4⟩
    · exact .inl h1
    · refine .inr ?_
      have := congrArg List.length h2
      rw [List.length_append] at this
      have h5 : 1 ≤ r'.length := by
        cases r' with
        | nil => exact absurd rfl h3
        | cons b r => simp
      rw [h4, List.flatMap_append, List.length_append]
      simp only [List.flatMap_cons, List.flatMap_nil, List.append_nil]
      omega
theorem frames_j1 (p : List Int) (hp : p.length = 12) (hp2 : ∀ x ∈ p, 0 ≤ x ∧ x < 10000) (t : List UInt8) (h1 : 1 ≤ t.length) (h2 : t.length ≤ 9000) :
    Ev (fun k => laws_FnFrames.j1 k p [mk t, mk frTwo, mk frThree]) true := by
  have ht : ∀ x ∈ [t, frTwo, frThree], 1 ≤ x.length ∧ x.length ≤ 9000 := by
    intro x hx
    simp only [List.mem_cons, List.not_mem_nil, or_false] at hx
    rcases hx with rfl | rfl | rfl
    · exact ⟨h1, h2⟩
    · decide
    · decide
  have hfo : ∀ x : List UInt8, 1 ≤ x.length → x.length ≤ 9000 → frameOf x = (mk (frameL x), true) := fun x a b => by unfold frameOf; rw [if_pos (by omega)]
  have q1 := hfo t h1 h2
  have q2 := hfo frTwo (by decide) (by decide)
  have q3 := hfo frThree (by decide) (by decide)
  have b1 := frameL_length t
  have b2 := frameL_length frTwo
  have b3 := frameL_length frThree
  have c1 := vt_len5 (n := t.length) (by omega)
  have c2 := vt_len5 (n := frTwo.length) (by decide)
  have c3 := vt_len5 (n := frThree.length) (by decide)
  have l2 : frTwo.length = 3 := rfl
  have l3 : frThree.length = 14 := rfl
  obtain ⟨K1, k1⟩ := impl_Frame.ev t (by omega)
  obtain ⟨K2, k2⟩ := impl_Frame.ev frTwo (by omega)
  obtain ⟨K3, k3⟩ := impl_Frame.ev frThree (by omega)
  obtain ⟨F, hF⟩ : ∃ F, F = frameL t ++ frameL frTwo ++ frameL frThree := ⟨_, rfl⟩
  have hF2 : [t, frTwo, frThree].flatMap frameL = F := by rw [hF]; simp
  have hFl : F.length = (frameL t).length + (frameL frTwo).length + (frameL frThree).length := by rw [hF]; simp [Nat.add_assoc]
  have hsz := mk_size F
  obtain ⟨K4, k4⟩ := impl_Unframe.ev F (by omega)
  obtain ⟨x0, hx0⟩ : ∃ x0 : Nat, rd p 0 = (x0 : Int) := Int.eq_ofNat_of_zero_le (by
    show 0 ≤ p.getD 0 0
    rw [List.getD_eq_getElem?_getD, List.getElem?_eq_getElem (show 0 < p.length by omega)]
    exact (hp2 _ (List.getElem_mem _)).1)
  have em : Hd (Int.tmod (x0 : Int) ((F.length + 1 : Nat) : Int) = ((x0 % (F.length + 1) : Nat) : Int)) := Hd.mk <| tmod_nat x0 (F.length + 1)
  have hkl : x0 % (F.length + 1) ≤ F.length := by have := Nat.mod_lt x0 (show 0 < F.length + 1 by omega); omega
  obtain ⟨q, hq⟩ : ∃ q, q = x0 % (F.length + 1) := ⟨_, rfl⟩
  rw [← hq] at hkl
  obtain ⟨K5, k5⟩ := impl_Unframe.ev (F.take q) (by simp; omega)
  obtain ⟨m, hm, hu, hle, hor⟩ := unf_cut [t, frTwo, frThree] ht q (by rw [hF2]; exact hkl)
  rw [hF2] at hu
  obtain ⟨K6, k6⟩ := laws_sameTexts.ev [mk t, mk frTwo, mk frThree] [mk t, mk frTwo, mk frThree] (by simp)
  obtain ⟨K7, k7⟩ := laws_sameTexts.ev (([t, frTwo, frThree].take m).map mk) (([t, frTwo, frThree].take m).map mk) (by simp; omega)
  dsimp only at k1 k2 k3 k4 k5 k6 k7
  refine ⟨K1 + K2 + K3 + K4 + K5 + K6 + K7 + 6, fun k hk => ?_⟩
  obtain ⟨k, rfl⟩ : ∃ m, k = m + 6 := ⟨k - 6, by omega⟩
  show laws_FnFrames.j1 (k + 6) _ _ = _
  rw [laws_FnFrames.j1, mk_nil,
    laws_FnFrames.l0, if_pos (by simp), if_pos (by omega), show rdOf ByteArray.empty [mk t, mk frTwo, mk frThree] 0 = mk t from rfl, k1 _ (by omega), Option.bind_some, q1]
  dsimp only
  rw [if_pos rfl, if_pos (by rw [mk_size, mk_size]; simp; omega), if_pos (by simp), mk_append, List.nil_append, show wrap64 (0 + 1) = 1 from by unfold wrap64; omega,
    laws_FnFrames.l0, if_pos (by simp), if_pos (by omega), show rdOf ByteArray.empty [mk t, mk frTwo, mk frThree] 1 = mk frTwo from rfl, k2 _ (by omega), Option.bind_some, q2]
  dsimp only
  rw [if_pos rfl, if_pos (by rw [mk_size, mk_size]; omega), if_pos (by simp), mk_append, show wrap64 (1 + 1) = 2 from by unfold wrap64; omega,
    laws_FnFrames.l0, if_pos (by simp), if_pos (by omega), show rdOf ByteArray.empty [mk t, mk frTwo, mk frThree] 2 = mk frThree from rfl, k3 _ (by omega), Option.bind_some, q3]
  dsimp only
  rw [if_pos rfl, if_pos (by rw [mk_size, mk_size]; simp; omega), if_pos (by simp), mk_append, show wrap64 (2 + 1) = 3 from by unfold wrap64; omega,
    laws_FnFrames.l0, if_neg (by simp), ← hF]
  by_cases hbig : ((mk F).size : Int) > 20000
  · rw [if_pos hbig]
  · have hw : unfOf F = ([mk t, mk frTwo, mk frThree], (F.length : Int)) := by
      unfold unfOf
      rw [if_pos (by omega)]
      have := unf_whole F [t, frTwo, frThree] (F.length + 1) 0 [] (by rw [List.drop_zero, hF2, List.append_nil]) ht (by simp; omega) (by rw [hF2, Nat.zero_add]; exact ufStep_end (Nat.le_refl _))
      rw [this, hF2, Nat.zero_add]
      rfl
    have hql : (F.take q).length = q := by rw [List.length_take]; omega
    have hc : unfOf (F.take q) = (([t, frTwo, frThree].take m).map mk, ((([t, frTwo, frThree].take m).flatMap frameL).length : Int)) := by
      unfold unfOf
      rw [if_pos (by omega), hu]
    have ew : Hd (wrap64 ((F.length : Int) + 1) = ((F.length + 1 : Nat) : Int)) := Hd.mk <| by rw [w64 (by omega) (by omega)]; rfl
    rw [if_neg hbig, k4 _ (by omega), Option.bind_some, hw]
    dsimp only
    rw [if_pos (by omega), k6 _ (by omega), Option.bind_some, decide_eq_true rfl, laws_FnFrames.j3, if_neg (by simp), if_pos (by omega), hsz, ew.out, if_neg (by omega), hx0, em.out, ← hq, if_pos (by omega), if_pos (by omega), mk_extract,
      Int.toNat_natCast, List.drop_zero, Nat.sub_zero, k5 _ (by omega), Option.bind_some, hc]
    dsimp only
    generalize hE : ([0] ++ [((mk []).size : Int) + ((mk (frameL t)).size : Int)] ++ [((mk (frameL t)).size : Int) + ((mk (frameL frTwo)).size : Int)] ++ [((mk (frameL t ++ frameL frTwo)).size : Int) + ((mk (frameL frThree)).size : Int)] : List Int) = E
    have hEl : E.length = 4 := by rw [← hE]; rfl
    have hEm : ∀ m : Nat, m ≤ 3 → rd E (m : Int) = ((([t, frTwo, frThree].take m).flatMap frameL).length : Int) := by
      intro m hm
      rw [← hE]
      simp only [mk_size]
      obtain rfl | rfl | rfl | rfl : m = 0 ∨ m = 1 ∨ m = 2 ∨ m = 3 := by omega
      · rfl
      · show ((([] : List UInt8).length : Int)) + ((frameL t).length : Int) = _
        simp
      · show ((frameL t).length : Int) + ((frameL frTwo).length : Int) = _
        simp
      · show ((frameL t ++ frameL frTwo).length : Int) + ((frameL frThree).length : Int) = _
        simp [Int.add_assoc]
    have hTl : (([t, frTwo, frThree].take m).map mk).length = m := by rw [List.length_map, List.length_take]; exact Nat.min_eq_left hm
    have hTt : [mk t, mk frTwo, mk frThree].take m = ([t, frTwo, frThree].take m).map mk := by rw [List.map_take]; rfl
    have hm3 : m ≤ 3 := hm
    rw [hTl, if_pos (by omega), if_pos (by omega), if_pos (by omega), hEm m hm3, if_pos rfl, if_pos (by omega), if_pos (show (m : Int) ≤ (([mk t, mk frTwo, mk frThree] : List ByteArray).length : Int) by simp; omega), Int.toNat_natCast, hTt, k7 _ (by omega), Option.bind_some, decide_eq_true rfl, if_pos rfl]
    by_cases h3 : m = 3
    · rw [if_pos (by omega)]
    · have e9 : Hd (wrap64 ((m : Int) + 1) = ((m + 1 : Nat) : Int)) := Hd.mk <| by rw [w64 (by omega) (by omega)]; rfl
      have h9 : q < (([t, frTwo, frThree].take (m + 1)).flatMap frameL).length := by
        rcases hor with h | h
        · exact absurd h h3
        · exact h
      rw [if_neg (by omega), e9.out, if_pos (by omega), if_pos (by omega), hEm (m + 1) (by omega), decide_eq_true (by omega)]
theorem FnFrames : ∀ (l0 : List Int), (l0.length ≤ maxLen ∧ ∀ y ∈ l0, (Lit.int .u8 y).wf = true) → ∃ k, laws_FnFrames.f k l0 = some true := by
  intro l hl
  by_cases hb : (l.length : Int) > 1048576
  · refine ⟨0, ?_⟩
    unfold laws_FnFrames.f laws_big.f
    rw [decide_eq_true hb]
    rfl
  obtain ⟨p, ⟨K1, h1⟩, hp, hp2⟩ := spec_DrawPlaces.ev l (by omega)
  obtain ⟨t, ⟨K2, h2⟩, ht⟩ := spec_DrawHex.ev l (by omega)
  obtain ⟨K3, h3⟩ := frames_j1 p hp hp2 [111, 110, 101] (by decide) (by decide)
  dsimp only at h1 h2 h3
  have hsz := mk_size t
  have key : ∀ b K, (∀ k, K ≤ k → laws_FnFrames.j0 (k + 1) p [mk t, mk frTwo, mk frThree] b = some true) → b = (decide (t.length = 0) || decide (t.length > 9000)) → ∃ k, laws_FnFrames.f k l = some true := by
    intro b K hK hbb
    refine ⟨K1 + K2 + K + 1, ?_⟩
    unfold laws_FnFrames.f laws_big.f
    rw [decide_eq_false hb, Option.bind_some, if_neg (by simp), h1 _ (by omega), Option.bind_some, h2 _ (by omega), Option.bind_some, Option.bind_some, if_pos (by simp)]
    rw [show rdOf ByteArray.empty [mk t, (⟨#[116, 119, 111]⟩ : ByteArray), (⟨#[116, 104, 114, 101, 101, 32, 97, 110, 100, 32, 109, 111, 114, 101]⟩ : ByteArray)] 0 = mk t from rfl]
    by_cases h0 : t.length = 0
    · rw [if_pos (by omega)]
      have := hK (K1 + K2 + K) (by omega)
      rw [hbb, decide_eq_true h0, Bool.true_or] at this
      exact this
    · rw [if_neg (by omega)]
      have := hK (K1 + K2 + K) (by omega)
      rw [hbb, decide_eq_false h0, Bool.false_or] at this
      rw [show decide (((mk t).size : Int) > 9000) = decide (t.length > 9000) from by rw [decide_eq_decide]; omega]
      exact this
  by_cases h0 : t.length = 0 ∨ t.length > 9000
  · refine key true K3 (fun k hk => ?_) (by rcases h0 with h0 | h0 <;> simp [h0])
    rw [laws_FnFrames.j0, if_pos rfl, if_pos (by simp)]
    exact h3 k hk
  · obtain ⟨K4, h4⟩ := frames_j1 p hp hp2 t (by omega) (by omega)
    dsimp only at h4
    refine key false K4 (fun k hk => ?_) (by rw [decide_eq_false (by omega), decide_eq_false (by omega)]; rfl)
    rw [laws_FnFrames.j0, if_neg (by simp)]
    exact h4 k hk

end Go.Proofs.Ytmdenlpaahlkbaa.Pure
