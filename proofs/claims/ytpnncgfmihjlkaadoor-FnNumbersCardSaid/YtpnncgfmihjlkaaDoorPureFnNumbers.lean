/- The law FnNumbers, over numbers and lists: for every input that the statement speaks of the printed function answers true; conditions: those of the printed statement. -/
import Derived.Test.YtpnncgfmihjlkaaDoorQFnNumbersx1
import Derived.Test.YtpnncgfmihjlkaaDoorQFnNumbersx2
import Derived.Test.YtpnncgfmihjlkaaDoorQFnNumbersx3
import Derived.Test.YtpnncgfmihjlkaaDoorQFnNumbersx4
import Derived.Laws.BitsAllLaws
import Derived.Sort.Walk0
import Derived.Lib.Bytealg
namespace Go.Proofs.YtpnncgfmihjlkaaDoor.Pure
open Go.RowKit Go.Proofs.YtpnncgfmihjlkaaDoor.QFnNumbers Go.Proofs.YtpnncgfmihjlkaaDoorW.PrintWords Go.Proofs.YtpnncgfmihjlkaaDoorW.PrintLast Go.Proofs.YtpnncgfmihjlkaaDoorW.PrintMore
set_option linter.unusedVariables false
set_option linter.unusedSimpArgs false

/-! ### strings as lists of bytes -/
def mk (l : List UInt8) : ByteArray := ⟨l.toArray⟩
def nm (l : List UInt8) : List Int := l.map fun b => (b.toNat : Int)
theorem mk_of (s : ByteArray) : ∃ l, s = mk l := ⟨s.data.toList, rfl⟩
theorem mk_data (l : List UInt8) : (mk l).data.toList = l := rfl
theorem mk_toList (l : List UInt8) : (mk l).toList = l := by rw [ByteArray.toList_eq]; rfl
theorem mk_size (l : List UInt8) : (mk l).size = l.length := List.size_toArray
theorem mk_inj {a b : List UInt8} (h : mk a = mk b) : a = b := by rw [← mk_data a, h]; rfl
theorem mk_append (a b : List UInt8) : mk a ++ mk b = mk (a ++ b) := by
  apply ByteArray.ext
  rw [ByteArray.data_append]
  simp [mk]
theorem mk_extract (l : List UInt8) (i j : Nat) : (mk l).extract i j = mk ((l.drop i).take (j - i)) := by
  apply ByteArray.ext
  rw [ByteArray.data_extract]
  apply Array.ext'
  simp [mk, List.take_drop]
theorem mk_nil : (⟨#[]⟩ : ByteArray) = mk [] := rfl
theorem nm_append (a b : List UInt8) : nm (a ++ b) = nm a ++ nm b := by simp [nm]
theorem nm_length (a : List UInt8) : (nm a).length = a.length := by simp [nm]
theorem nm_nil : ([] : List Int) = nm [] := rfl
theorem strOf_nm (l : List UInt8) : strOfNums (nm l) = mk l := by
  unfold strOfNums nm mk
  rw [List.map_map]
  congr 1
  have : ∀ l : List UInt8, List.map ((fun n : Int => UInt8.ofNat n.toNat) ∘ fun b : UInt8 => (b.toNat : Int)) l = l := by
    intro l
    induction l with
    | nil => rfl
    | cons a l ih => rw [List.map_cons, ih]; simp
  rw [this]
theorem bt_mk (l : List UInt8) (n : Nat) (h : n < l.length) : bt (mk l) (n : Int) = ((l[n]).toNat : Int) := by
  unfold bt
  rw [dif_pos (show (n : Int).toNat < (mk l).size by rw [mk_size]; omega)]
  rfl
/-- A fact that omega doesn't look into. -/
structure Hd (p : Prop) : Prop where
  mk :: (out : p)
theorem w64 {x : Int} (h0 : -9223372036854775808 ≤ x) (h1 : x ≤ 9223372036854775807) : wrap64 x = x := by
  unfold wrap64
  omega
theorem nm_u8 (n : Nat) (h : n < 256) : nm [UInt8.ofNat n] = [(n : Int)] := by
  simp [nm]
  omega
theorem tmod_nat (x d : Nat) : Int.tmod (x : Int) (d : Int) = ((x % d : Nat) : Int) := by
  rw [Int.tmod_eq_emod_of_nonneg (by omega)]
  exact (Int.natCast_emod x d).symm
theorem tdiv_nat (x d : Nat) : Int.tdiv (x : Int) (d : Int) = ((x / d : Nat) : Int) := by
  rw [Int.tdiv_eq_ediv_of_nonneg (by omega)]
  exact (Int.natCast_ediv x d).symm
theorem drop_cons (l : List UInt8) (i : Nat) (h : i < l.length) : l.drop i = l[i] :: l.drop (i + 1) := List.drop_eq_getElem_cons h
/-! ### numbers in bytes -/
def vt (n : Nat) : List UInt8 := if h : 127 < n then UInt8.ofNat (n % 128 + 128) :: vt (n / 128) else [UInt8.ofNat n]
termination_by n
decreasing_by omega
theorem vt_big {n : Nat} (h : 127 < n) : vt n = UInt8.ofNat (n % 128 + 128) :: vt (n / 128) := by rw [vt, dif_pos h]
theorem vt_small {n : Nat} (h : n ≤ 127) : vt n = [UInt8.ofNat n] := by rw [vt, dif_neg (by omega)]
theorem vt_len (d : Nat) : ∀ n : Nat, n < 128 * 128 ^ d → 1 ≤ (vt n).length ∧ (vt n).length ≤ d + 1 := by
  induction d with
  | zero => intro n h; rw [vt_small (by omega)]; simp
  | succ d ih =>
    intro n h
    by_cases hn : 127 < n
    · rw [vt_big hn]
      have := ih (n / 128) (by rw [Nat.pow_succ] at h; omega)
      simp only [List.length_cons]
      omega
    · rw [vt_small (by omega)]; simp
theorem vt_len8 {n : Nat} (h : n ≤ 9223372036854775807) : 1 ≤ (vt n).length ∧ (vt n).length ≤ 9 := vt_len 8 n (by omega)
theorem vt_len5 {n : Nat} (h : n ≤ 1000000000) : 1 ≤ (vt n).length ∧ (vt n).length ≤ 5 := vt_len 4 n (by omega)
/-- What VarText answers. -/
def varOf (n : Int) : ByteArray × Bool := if 0 ≤ n ∧ n ≤ 1000000000 then (mk (vt n.toNat), true) else (mk [], false)
/-- The number that stands at a list's head in bytes of seven bits, at most f of them; and how many bytes it has. -/
def leb : Nat → List UInt8 → Option (Nat × Nat)
  | 0, _ => none
  | _ + 1, [] => none
  | f + 1, b :: l => if b.toNat < 128 then some (b.toNat, 1) else match leb f l with
    | none => none
    | some (n, c) => some (b.toNat % 128 + 128 * n, c + 1)
theorem leb_facts : ∀ (f : Nat) (l : List UInt8) (n c : Nat), leb f l = some (n, c) → 1 ≤ c ∧ c ≤ f ∧ c ≤ l.length ∧ n < 128 ^ f
  | 0, _, _, _, h => by simp [leb] at h
  | f + 1, [], _, _, h => by simp [leb] at h
  | f + 1, b :: l, n, c, h => by
    rw [leb] at h
    have hp : 1 ≤ 128 ^ f := Nat.pow_pos (by omega)
    by_cases hb : b.toNat < 128
    · rw [if_pos hb] at h
      simp only [Option.some.injEq, Prod.mk.injEq] at h
      obtain ⟨rfl, rfl⟩ := h
      simp only [List.length_cons, Nat.pow_succ]
      omega
    · rw [if_neg hb] at h
      cases hr : leb f l with
      | none => rw [hr] at h; simp at h
      | some p =>
        obtain ⟨n', c'⟩ := p
        rw [hr] at h
        simp only [Option.some.injEq, Prod.mk.injEq] at h
        obtain ⟨rfl, rfl⟩ := h
        have := leb_facts f l n' c' hr
        simp only [List.length_cons, Nat.pow_succ]
        omega
/-- As long as its own text: just its own text. -/
theorem leb_text : ∀ (f : Nat) (l : List UInt8) (n c : Nat), leb f l = some (n, c) → (vt n).length = c → vt n = l.take c
  | 0, _, _, _, h, _ => by simp [leb] at h
  | f + 1, [], _, _, h, _ => by simp [leb] at h
  | f + 1, b :: l, n, c, h, hl => by
    rw [leb] at h
    have hb8 := b.toNat_lt
    by_cases hb : b.toNat < 128
    · rw [if_pos hb] at h
      simp only [Option.some.injEq, Prod.mk.injEq] at h
      obtain ⟨rfl, rfl⟩ := h
      rw [vt_small (by omega)]
      simp
    · rw [if_neg hb] at h
      cases hr : leb f l with
      | none => rw [hr] at h; simp at h
      | some p =>
        obtain ⟨n', c'⟩ := p
        rw [hr] at h
        simp only [Option.some.injEq, Prod.mk.injEq] at h
        obtain ⟨rfl, rfl⟩ := h
        have hf := leb_facts f l n' c' hr
        by_cases hn : 127 < b.toNat % 128 + 128 * n'
        · rw [vt_big hn] at hl ⊢
          have e1 : (b.toNat % 128 + 128 * n') / 128 = n' := by omega
          have e2 : (b.toNat % 128 + 128 * n') % 128 + 128 = b.toNat := by omega
          rw [e1] at hl
          rw [e1, e2]
          simp only [List.length_cons, Nat.add_right_cancel_iff] at hl
          rw [leb_text f l n' c' hr hl]
          simp
        · rw [vt_small (by omega)] at hl
          simp at hl
          omega
theorem leb_vt (d : Nat) : ∀ (n : Nat) (r : List UInt8), (vt n).length ≤ d → leb d (vt n ++ r) = some (n, (vt n).length) := by
  induction d with
  | zero => intro n r h; have := (vt_len n n (by have := Nat.lt_pow_self (n := n) (a := 128) (by omega); omega)).1; omega
  | succ d ih =>
    intro n r h
    by_cases hn : 127 < n
    · rw [vt_big hn] at h ⊢
      simp only [List.length_cons] at h
      have hb : (UInt8.ofNat (n % 128 + 128)).toNat = n % 128 + 128 := by rw [UInt8.toNat_ofNat']; omega
      rw [List.cons_append, leb, hb, if_neg (by omega), ih (n / 128) r (by omega)]
      simp only [List.length_cons]
      congr 2
      omega
    · rw [vt_small (by omega)]
      have hb : (UInt8.ofNat n).toNat = n := by rw [UInt8.toNat_ofNat']; omega
      rw [List.singleton_append, leb, hb, if_pos (by omega)]
      rfl
def rvFin (a : Nat) : Option (Nat × Nat) → Int × Int × Bool
  | none => (0, 0, false)
  | some (n, c) => if n ≤ 1000000000 ∧ (vt n).length = c then ((n : Int), ((a + c : Nat) : Int), true) else (0, 0, false)
/-- What ReadVar answers. -/
def rvOf (l : List UInt8) (a : Int) : Int × Int × Bool := if 0 ≤ a ∧ a ≤ l.length then rvFin a.toNat (leb 5 (l.drop a.toNat)) else (0, 0, false)
def pw (i : Nat) : Nat := 128 ^ i
theorem pw_succ (i : Nat) : pw (i + 1) = pw i * 128 := Nat.pow_succ _ _
theorem pw_pos (i : Nat) : 1 ≤ pw i := Nat.pow_pos (by omega)
theorem pw_le5 {i : Nat} (h : i ≤ 5) : 1 ≤ pw i ∧ pw i ≤ 34359738368 := ⟨pw_pos i, (Nat.pow_le_pow_right (by omega) h : 128 ^ i ≤ 128 ^ 5)⟩
theorem pw_le4 {i : Nat} (h : i ≤ 4) : pw i ≤ 268435456 := (Nat.pow_le_pow_right (by omega) h : 128 ^ i ≤ 128 ^ 4)
/-- Byte m's seven bits at place i. -/
def dg (m i : Nat) : Nat := m % 128 * pw i
theorem dg_le (m i : Nat) (h : i ≤ 4) : dg m i ≤ 34091302912 := (Nat.mul_le_mul (by omega) (pw_le4 h) : m % 128 * pw i ≤ 127 * 268435456)
theorem dg_lt {n0 m i : Nat} (h : n0 < pw i) : n0 + dg m i < pw (i + 1) := by
  have : dg m i ≤ 127 * pw i := Nat.mul_le_mul_right _ (by omega)
  rw [pw_succ]
  omega
/-- What is told behind i bytes. -/
def lebOn (n0 i : Nat) : Option (Nat × Nat) → Option (Nat × Nat)
  | none => none
  | some (n, c) => some (n0 + pw i * n, i + c)
theorem lebOn_step (f : Nat) (b : UInt8) (l : List UInt8) (n0 i : Nat) (hb : ¬ b.toNat < 128) : lebOn n0 i (leb (f + 1) (b :: l)) = lebOn (n0 + dg b.toNat i) (i + 1) (leb f l) := by
  rw [leb, if_neg hb]
  cases leb f l with
  | none => rfl
  | some p =>
    obtain ⟨n, c⟩ := p
    simp only [lebOn, pw_succ, dg]
    congr 2
    · rw [Nat.mul_add, Nat.mul_comm (pw i) (b.toNat % 128), Nat.mul_assoc, Nat.add_assoc]
    · omega
theorem lebOn_last (f : Nat) (b : UInt8) (l : List UInt8) (n0 i : Nat) (hb : b.toNat < 128) : lebOn n0 i (leb (f + 1) (b :: l)) = some (n0 + dg b.toNat i, i + 1) := by
  rw [leb, if_pos hb]
  simp only [lebOn, dg]
  rw [Nat.mod_eq_of_lt hb, Nat.mul_comm]
theorem lebOn_zero (x : Option (Nat × Nat)) : lebOn 0 0 x = x := by
  cases x with
  | none => rfl
  | some p => obtain ⟨n, c⟩ := p; simp [lebOn, pw]
/-- What ReadShort answers. -/
def rsFin (l : List UInt8) (r : Int × Int × Bool) : ByteArray × Int × Bool :=
  if r.2.2 = true ∧ r.1 ≤ 20000 ∧ r.1 ≤ (l.length : Int) - r.2.1 then (mk ((l.drop r.2.1.toNat).take r.1.toNat), r.2.1 + r.1, true) else (mk [], 0, false)
def rsOf (l : List UInt8) (a : Int) : ByteArray × Int × Bool := rsFin l (rvOf l a)
theorem rvOf_facts (l : List UInt8) (a : Int) (h : (rvOf l a).2.2 = true) : ∃ n c at_ : Nat, a = at_ ∧ rvOf l a = ((n : Int), ((at_ + c : Nat) : Int), true) ∧ 1 ≤ c ∧ c ≤ 5 ∧ at_ + c ≤ l.length ∧ n ≤ 1000000000 ∧ leb 5 (l.drop at_) = some (n, c) ∧ (vt n).length = c := by
  unfold rvOf at h ⊢
  by_cases hc : 0 ≤ a ∧ a ≤ l.length
  · rw [if_pos hc] at h ⊢
    obtain ⟨m, rfl⟩ := Int.eq_ofNat_of_zero_le hc.1
    rw [Int.toNat_natCast] at h ⊢
    cases hl : leb 5 (l.drop m) with
    | none => rw [hl] at h; simp [rvFin] at h
    | some p =>
      obtain ⟨n, c⟩ := p
      have hf := leb_facts 5 _ n c hl
      rw [List.length_drop] at hf
      rw [hl] at h
      unfold rvFin at h ⊢
      dsimp only at h ⊢
      by_cases hk : n ≤ 1000000000 ∧ (vt n).length = c
      · rw [if_pos hk]
        exact ⟨n, c, m, rfl, rfl, hf.1, hf.2.1, by omega, hk.1, hl, hk.2⟩
      · rw [if_neg hk] at h
        simp at h
  · rw [if_neg hc] at h
    simp at h
def shortOf (l : List UInt8) : ByteArray × Bool := if l.length ≤ 20000 then (mk (vt l.length ++ l), true) else (mk [], false)
def hx (n : Nat) : UInt8 := if n < 10 then UInt8.ofNat (48 + n) else UInt8.ofNat (87 + n)
def hexL (l : List UInt8) : List UInt8 := l.flatMap fun b => [hx (b.toNat / 16), hx (b.toNat % 16)]
theorem hexL_cons (b : UInt8) (l : List UInt8) : hexL (b :: l) = [hx (b.toNat / 16), hx (b.toNat % 16)] ++ hexL l := rfl
def hexOf (l : List UInt8) : ByteArray × Bool := if l.length ≤ 20000 then (mk (hexL l), true) else (mk [], false)
theorem hx_nat : ∀ n : Nat, n < 16 → (hx n).toNat = if n < 10 then 48 + n else 87 + n := by decide
/-- A figure's value, below 0 when it is none. -/
def hvN (n : Nat) : Int := if 48 ≤ n ∧ n ≤ 57 then (n : Int) - 48 else if 97 ≤ n ∧ n ≤ 102 then (n : Int) - 87 else -1
theorem hvN_le (n : Nat) : -1 ≤ hvN n ∧ hvN n ≤ 15 := by
  unfold hvN
  split
  · omega
  · split <;> omega
def uhL : List UInt8 → Option (List UInt8)
  | a :: b :: l => if hvN a.toNat < 0 ∨ hvN b.toNat < 0 then none else match uhL l with
    | none => none
    | some t => some (UInt8.ofNat (16 * (hvN a.toNat).toNat + (hvN b.toNat).toNat) :: t)
  | _ => some []
def uhR (acc : List UInt8) : Option (List UInt8) → ByteArray × Bool
  | none => (mk [], false)
  | some t => (mk (acc ++ t), true)
def unhexOf (l : List UInt8) : ByteArray × Bool := if l.length % 2 = 1 ∨ l.length > 40000 then (mk [], false) else uhR [] (uhL l)
theorem uhR_cons (acc : List UInt8) (a b : UInt8) (l : List UInt8) (h : ¬ (hvN a.toNat < 0 ∨ hvN b.toNat < 0)) : uhR acc (uhL (a :: b :: l)) = uhR (acc ++ [UInt8.ofNat (16 * (hvN a.toNat).toNat + (hvN b.toNat).toNat)]) (uhL l) := by
  rw [uhL, if_neg h]
  cases uhL l with
  | none => rfl
  | some t => simp [uhR]
theorem uhR_bad (acc : List UInt8) (a b : UInt8) (l : List UInt8) (h : hvN a.toNat < 0 ∨ hvN b.toNat < 0) : uhR acc (uhL (a :: b :: l)) = (mk [], false) := by
  rw [uhL, if_pos h]
  rfl
theorem unhex_byte (x y : Int) (h0 : 0 ≤ x) (h1 : x ≤ 15) (h2 : 0 ≤ y) (h3 : y ≤ 15) : [(wrap64 ((wrap64 (16 * x)) + y)) % 256] = nm [UInt8.ofNat (16 * x.toNat + y.toNat)] := by
  rw [nm_u8 _ (by omega), w64 (x := 16 * x) (by omega) (by omega), w64 (by omega) (by omega)]
  congr 1
  omega
/-- C holds at i, i + 1, .., d of them. -/
def allF (C : Nat → Bool) : Nat → Nat → Bool
  | 0, _ => true
  | d + 1, i => C i && allF C d (i + 1)
theorem allF_congr {C D : Nat → Bool} (d : Nat) : ∀ i, (∀ j, i ≤ j → j < i + d → C j = D j) → allF C d i = allF D d i := by
  induction d with
  | zero => intro i h; rfl
  | succ d ih =>
    intro i h
    simp only [allF]
    rw [h i (by omega) (by omega), ih (i + 1) (fun j h1 h2 => h j (by omega) (by omega))]
theorem allF_true {C : Nat → Bool} (d : Nat) : ∀ i, allF C d i = true ↔ ∀ j, i ≤ j → j < i + d → C j = true := by
  induction d with
  | zero => intro i; simp only [allF, true_iff]; intro j h1 h2; omega
  | succ d ih =>
    intro i
    simp only [allF, Bool.and_eq_true, ih]
    constructor
    · rintro ⟨h1, h2⟩ j h3 h4
      by_cases e : j = i
      · rw [e]; exact h1
      · exact h2 j (by omega) (by omega)
    · intro h
      exact ⟨h i (by omega) (by omega), fun j h1 h2 => h j (by omega) (by omega)⟩
theorem ev_now {α : Type} {g : Nat → Option α} {r : α} (h : ∀ k, g (k + 1) = some r) : Ev g r :=
  ⟨1, fun k hk => by obtain ⟨m, rfl⟩ : ∃ m, k = m + 1 := ⟨k - 1, by omega⟩; exact h m⟩
/-! ### the decimal numeral -/
/-- The digits; none for 0. -/
def dd (u : Nat) : List UInt8 := if u = 0 then [] else Lib.decDigits u
theorem dd_step (u : Nat) (h : u ≠ 0) : dd u = dd (u / 10) ++ [UInt8.ofNat (48 + u % 10)] := by
  unfold dd
  rw [if_neg h, Lib.decDigits]
  by_cases h1 : u < 10
  · rw [dif_pos h1, if_pos (by omega), List.nil_append, Nat.mod_eq_of_lt h1]
  · rw [dif_neg h1, if_neg (by omega)]
theorem dig_str (n : Nat) (h : n < 10) : strOfNums [((48 + n : Nat) : Int)] = mk [UInt8.ofNat (48 + n)] := by
  rw [← nm_u8 _ (by omega), strOf_nm]
theorem tm_pos (n : Nat) : Int.tmod (n : Int) 10 = ((n % 10 : Nat) : Int) ∧ Int.tdiv (n : Int) 10 = ((n / 10 : Nat) : Int) := by
  rw [Int.tmod_eq_emod_of_nonneg (by omega), Int.tdiv_eq_ediv_of_nonneg (by omega)]
  exact ⟨by omega, by omega⟩
theorem tm_neg (n : Nat) : Int.tmod (-(n : Int)) 10 = -((n % 10 : Nat) : Int) ∧ Int.tdiv (-(n : Int)) 10 = -((n / 10 : Nat) : Int) := by
  rw [Int.neg_tmod, Int.neg_tdiv, (tm_pos n).1, (tm_pos n).2]
  exact ⟨rfl, rfl⟩
/-! ### a numeral read -/
def digL (l : List UInt8) : Bool := l.all fun b => decide (48 ≤ b.toNat ∧ b.toNat ≤ 57)
def stp (n : Nat) (b : UInt8) : Nat := 10 * n + (b.toNat - 48)
def val (acc : Nat) (l : List UInt8) : Nat := l.foldl stp acc
theorem stp_eq (n : Nat) (b : UInt8) : stp n b = 10 * n + (b.toNat - 48) := by unfold stp; rfl
theorem val_nil (acc : Nat) : val acc [] = acc := List.foldl_nil
theorem val_cons (acc : Nat) (b : UInt8) (l : List UInt8) : val acc (b :: l) = val (stp acc b) l := List.foldl_cons ..
theorem val_snoc (b : UInt8) (l : List UInt8) (acc : Nat) : val acc (l ++ [b]) = 10 * val acc l + (b.toNat - 48) := by
  rw [← stp_eq]
  unfold val
  rw [List.foldl_append, List.foldl_cons, List.foldl_nil]
theorem val_ge : ∀ (l : List UInt8) (acc : Nat), acc ≤ val acc l
  | [], acc => by rw [val_nil]; omega
  | b :: l, acc => by
    rw [val_cons]
    have h1 := val_ge l (stp acc b)
    have h2 := stp_eq acc b
    omega
theorem digL_cons (b : UInt8) (l : List UInt8) : digL (b :: l) = (decide (48 ≤ b.toNat ∧ b.toNat ≤ 57) && digL l) := rfl
theorem parse_val : ∀ (l : List UInt8) (acc : Nat), digL l = true → val acc l ≤ 1000000000 → Lib.parseUint10 acc l = .ok (val acc l)
  | [], acc, _, _ => by rw [Lib.parseUint10, val_nil]
  | b :: l, acc, hd, hv => by
    rw [digL_cons, Bool.and_eq_true, decide_eq_true_eq] at hd
    rw [val_cons] at hv
    have h1 := val_ge l (stp acc b)
    have h2 := stp_eq acc b
    have ih := parse_val l (stp acc b) hd.2 hv
    rw [Lib.parseUint10, if_pos hd.1, if_neg (by omega), if_neg (by omega), Nat.mul_comm acc 10, ← h2, ih, val_cons]
theorem dec_val (d : Nat) : ∀ u : Nat, u < 10 ^ (d + 1) → val 0 (Lib.decDigits u) = u ∧ digL (Lib.decDigits u) = true ∧ (Lib.decDigits u).length ≤ d + 1 := by
  have small : ∀ u : Nat, u < 10 → val 0 (Lib.decDigits u) = u ∧ digL (Lib.decDigits u) = true ∧ (Lib.decDigits u).length = 1 := fun u hu => by
    rw [Lib.decDigits, dif_pos hu]
    have e : (UInt8.ofNat (48 + u)).toNat = 48 + u := by simp; omega
    refine ⟨?_, ?_, rfl⟩
    · rw [val_cons, val_nil, stp_eq, e]
      omega
    · rw [digL_cons, e, decide_eq_true (by omega)]
      rfl
  induction d with
  | zero =>
    intro u hu
    have := small u (by omega)
    exact ⟨this.1, this.2.1, by omega⟩
  | succ d ih =>
    intro u hu
    by_cases h : u < 10
    · have := small u h
      exact ⟨this.1, this.2.1, by omega⟩
    · have hpow : 10 ^ (d + 1 + 1) = 10 ^ (d + 1) * 10 := Nat.pow_succ 10 (d + 1)
      have hlt : u / 10 < 10 ^ (d + 1) := by
        rw [Nat.div_lt_iff_lt_mul (by omega), ← hpow]
        exact hu
      obtain ⟨h1, h2, h3⟩ := ih (u / 10) hlt
      clear ih hpow hlt hu
      rw [Lib.decDigits, dif_neg h]
      have e : (UInt8.ofNat (48 + u % 10)).toNat = 48 + u % 10 := by simp; omega
      refine ⟨?_, ?_, ?_⟩
      · rw [val_snoc, h1, e]
        omega
      · show (Lib.decDigits (u / 10) ++ [UInt8.ofNat (48 + u % 10)]).all _ = true
        rw [List.all_append]
        have h2' : (Lib.decDigits (u / 10)).all (fun b => decide (48 ≤ b.toNat ∧ b.toNat ≤ 57)) = true := h2
        rw [h2', List.all_cons, e, decide_eq_true (by omega)]
        rfl
      · rw [List.length_append]
        simp only [List.length_cons, List.length_nil]
        omega
def rdC (l : List UInt8) : Prop := l.length ≤ 10 ∧ digL l = true ∧ val 0 l ≤ 1000000000 ∧ Lib.decDigits (val 0 l) = l
instance (l : List UInt8) : Decidable (rdC l) := by unfold rdC; infer_instance
/-- What is read. -/
def rdO (l : List UInt8) : Int × Bool := if rdC l then ((val 0 l : Int), true) else (0, false)
theorem itoa_nat (u : Nat) : Lib.itoa (u : Int) = Lib.decDigits u := by
  unfold Lib.itoa
  rw [if_neg (by omega), Int.toNat_natCast]
/-! ### each reading gives back what was written -/
theorem rv_back (n : Nat) (h : n ≤ 1000000000) (a r : List UInt8) : rvOf (a ++ (vt n ++ r)) (a.length : Int) = ((n : Int), ((a.length + (vt n).length : Nat) : Int), true) := by
  have hl := vt_len5 h
  unfold rvOf
  rw [if_pos (by simp only [List.length_append]; omega), Int.toNat_natCast, List.drop_left, leb_vt 5 n r hl.2]
  unfold rvFin
  dsimp only
  rw [if_pos ⟨h, rfl⟩]
theorem rs_back (l : List UInt8) (h : l.length ≤ 20000) : rsOf (vt l.length ++ l) 0 = (mk l, ((vt l.length ++ l).length : Int), true) := by
  have e := rv_back l.length (by omega) [] l
  rw [List.nil_append, List.length_nil] at e
  unfold rsOf rsFin
  rw [show ((0 : Nat) : Int) = 0 from rfl] at e
  rw [e]
  dsimp only
  rw [if_pos ⟨rfl, by omega, by simp only [List.length_append]; omega⟩, Int.toNat_natCast, Int.toNat_natCast, Nat.zero_add, List.drop_left, List.take_of_length_le (Nat.le_refl _)]
  congr 2
  simp only [List.length_append]
  omega
theorem hv_hx : ∀ n : Nat, n < 16 → hvN (hx n).toNat = (n : Int) := by decide
theorem uh_back : ∀ (l acc : List UInt8), uhR acc (uhL (hexL l)) = (mk (acc ++ l), true)
  | [], acc => by
    show uhR acc (uhL []) = _
    rw [uhL]
    · rfl
    · intro a b l h
      cases h
  | b :: l, acc => by
    have h256 : b.toNat < 256 := b.toNat_lt
    have e1 := hv_hx (b.toNat / 16) (by omega)
    have e2 := hv_hx (b.toNat % 16) (by omega)
    rw [hexL_cons, List.cons_append, List.cons_append, List.nil_append, uhR_cons _ _ _ _ (by rw [e1, e2]; omega), e1, e2, Int.toNat_natCast, Int.toNat_natCast, uh_back l, List.append_assoc, List.singleton_append]
    congr 4
    apply UInt8.toNat_inj.1
    simp
    omega
theorem hexL_len : ∀ l : List UInt8, (hexL l).length = 2 * l.length
  | [] => rfl
  | b :: l => by
    rw [hexL_cons, List.length_append, hexL_len l]
    simp only [List.length_cons, List.length_nil]
    omega
theorem unhex_back (l : List UInt8) (h : l.length ≤ 20000) : unhexOf (hexL l) = (mk l, true) := by
  have := hexL_len l
  unfold unhexOf
  rw [if_neg (by omega), uh_back, List.nil_append]
theorem rd_back (n : Nat) (h : n ≤ 1000000000) : rdO (Lib.itoa (n : Int)) = ((n : Int), true) := by
  obtain ⟨e1, e2, e3⟩ := dec_val 9 n (by omega)
  unfold rdO
  rw [itoa_nat]
  rw [if_pos (show rdC (Lib.decDigits n) from ⟨by omega, e2, by rw [e1]; exact h, by rw [e1]⟩), e1]
theorem i64_and255 (n : Int) : Go.bits .and .i64 n 255 = n % 256 := by
  have h255 : (BitVec.ofInt 64 255).toNat = 2 ^ 8 - 1 := by decide
  have key : (BitVec.ofInt 64 n &&& BitVec.ofInt 64 255).toNat = (n % ((2 ^ 64 : Nat) : Int)).toNat % 2 ^ 8 := by
    rw [BitVec.toNat_and, BitVec.toNat_ofInt, h255, Nat.and_two_pow_sub_one_eq_mod]
  show IntKind.i64.wrap ((BitVec.ofInt 64 n &&& BitVec.ofInt 64 255).toNat : Nat) = n % 256
  rw [key, IntKind.wrap_i64]
  omega
theorem spec_l01Byte.is (b : List Int) (hs : b.length ≤ 1048576) (i h : Int) (h0 : 0 ≤ i) (h1 : i ≤ b.length) : ∃ v i' h', spec_l01Byte.f b i h = some (v, i', h') ∧ 0 ≤ v ∧ v ≤ 255 ∧ 0 ≤ i' ∧ i' ≤ b.length := by
  unfold spec_l01Byte.f
  by_cases hc : i < (b.length : Int)
  · rw [if_pos hc, if_pos h0, i64_and255]
    exact ⟨_, _, _, rfl, by omega, by omega, by rw [w64 (by omega) (by omega)]; omega, by rw [w64 (by omega) (by omega)]; omega⟩
  · rw [if_neg hc, i64_and255]
    exact ⟨_, _, _, rfl, by omega, by omega, h0, h1⟩
theorem tmod_in {x n : Int} (h0 : 0 ≤ x) (hn : 0 < n) : 0 ≤ Int.tmod x n ∧ Int.tmod x n < n := by
  rw [Int.tmod_eq_emod_of_nonneg h0]
  exact ⟨Int.emod_nonneg _ (by omega), Int.emod_lt_of_pos _ hn⟩
theorem spec_l01Below.is (b : List Int) (hs : b.length ≤ 1048576) (i h n : Int) (h0 : 0 ≤ i) (h1 : i ≤ b.length) : ∃ v i' h', spec_l01Below.f b i h n = some (v, i', h') ∧ 0 ≤ v ∧ (n ≤ 0 → v = 0) ∧ (0 < n → v < n) ∧ 0 ≤ i' ∧ i' ≤ b.length := by
  unfold spec_l01Below.f
  by_cases hc : n ≤ 0
  · rw [if_pos hc]
    exact ⟨_, _, _, rfl, by omega, fun _ => rfl, fun h => by omega, h0, h1⟩
  · rw [if_neg hc]
    by_cases hd : n ≤ 256
    · obtain ⟨v, i', h', e, g0, g1, g2, g3⟩ := spec_l01Byte.is b hs i h h0 h1
      rw [if_pos hd, e, Option.bind_some, if_neg (by omega)]
      have := tmod_in g0 (show 0 < n by omega)
      exact ⟨_, _, _, rfl, this.1, fun h => by omega, fun _ => this.2, g2, g3⟩
    · obtain ⟨v1, i1, s1, e1, a1, b1, c1, d1⟩ := spec_l01Byte.is b hs i h h0 h1
      obtain ⟨v2, i2, s2, e2, a2, b2, c2, d2⟩ := spec_l01Byte.is b hs i1 s1 c1 d1
      obtain ⟨v3, i3, s3, e3, a3, b3, c3, d3⟩ := spec_l01Byte.is b hs i2 s2 c2 d2
      obtain ⟨v4, i4, s4, e4, a4, b4, c4, d4⟩ := spec_l01Byte.is b hs i3 s3 c3 d3
      rw [if_neg hd, e1, Option.bind_some]
      dsimp only
      rw [e2, Option.bind_some]
      dsimp only
      rw [e3, Option.bind_some]
      dsimp only
      rw [e4, Option.bind_some, if_neg (by omega)]
      have hw : 0 ≤ wrap64 ((wrap64 ((wrap64 ((wrap64 (v1 * 16777216)) + (wrap64 (v2 * 65536)))) + (wrap64 (v3 * 256)))) + v4) := by
        rw [w64 (x := v1 * 16777216) (by omega) (by omega), w64 (x := v2 * 65536) (by omega) (by omega), w64 (x := v3 * 256) (by omega) (by omega), w64 (x := v1 * 16777216 + v2 * 65536) (by omega) (by omega),
          w64 (x := v1 * 16777216 + v2 * 65536 + v3 * 256) (by omega) (by omega), w64 (by omega) (by omega)]
        omega
      have := tmod_in hw (show 0 < n by omega)
      exact ⟨_, _, _, rfl, this.1, fun h => by omega, fun _ => this.2, c4, d4⟩
theorem spec_l01New.ev0 (l : List Int) (hs : l.length ≤ 1048576) (d : Nat) : ∀ (i : Nat) (h : Int), i + d = l.length → ∃ h', Ev (fun k => spec_l01New.l0 k l h (i : Int)) (l, 0, h') := by
  induction d with
  | zero =>
    intro i h hi
    refine ⟨h, 1, fun k hk => ?_⟩
    obtain ⟨k, rfl⟩ : ∃ m, k = m + 1 := ⟨k - 1, by omega⟩
    show spec_l01New.l0 (k + 1) _ _ _ = _
    rw [spec_l01New.l0, if_neg (by omega)]
  | succ d ih =>
    intro i h hi
    by_cases hc : i < 4000
    · have e3 : Hd (wrap64 ((i : Int) + 1) = ((i + 1 : Nat) : Int)) := Hd.mk <| by rw [w64 (by omega) (by omega)]; rfl
      obtain ⟨h', hh⟩ := ih (i + 1) (Go.bits .and .i64 (wrap64 ((wrap64 ((wrap64 (h * 131)) + (wrap64 (rd l (i : Int))))) + 7)) 1073741823) (by omega)
      refine ⟨h', Ev.step (fun k => ?_) hh⟩
      show spec_l01New.l0 (k + 1) _ _ _ = _
      rw [spec_l01New.l0, if_pos (by omega), if_pos (by omega), if_pos (by omega), e3.out]
    · refine ⟨h, 1, fun k hk => ?_⟩
      obtain ⟨k, rfl⟩ : ∃ m, k = m + 1 := ⟨k - 1, by omega⟩
      show spec_l01New.l0 (k + 1) _ _ _ = _
      rw [spec_l01New.l0, if_pos (by omega), if_neg (by omega)]
theorem spec_l01New.ev (l : List Int) (hs : l.length ≤ 1048576) : ∃ h, Ev (fun k => spec_l01New.f k l) (l, 0, h) := by
  obtain ⟨h, hh⟩ := spec_l01New.ev0 l hs l.length 0 (wrap64 (10301 + (l.length : Int))) (by omega)
  exact ⟨h, hh⟩
theorem spec_l01PickInt.is (b : List Int) (hs : b.length ≤ 1048576) (i h : Int) (l : List Int) (hl : 0 < l.length) (h0 : 0 ≤ i) (h1 : i ≤ b.length) : ∃ v i' h', spec_l01PickInt.f b i h l = some (v, i', h') ∧ 0 ≤ i' ∧ i' ≤ b.length := by
  obtain ⟨v, i', h', e, g0, _, g1, g2, g3⟩ := spec_l01Below.is b hs i h (l.length : Int) h0 h1
  have g1 := g1 (by omega)
  unfold spec_l01PickInt.f
  rw [e, Option.bind_some, if_pos g0, if_pos g1]
  exact ⟨_, _, _, rfl, g2, g3⟩
theorem spec_l01Number.is (b : List Int) (hs : b.length ≤ 1048576) (i h : Int) (h0 : 0 ≤ i) (h1 : i ≤ b.length) : ∃ v i' h', spec_l01Number.f b i h = some (v, i', h') := by
  obtain ⟨v, i', h', e, g0, _, g1, g2, g3⟩ := spec_l01Below.is b hs i h 4 h0 h1
  unfold spec_l01Number.f
  rw [e, Option.bind_some]
  dsimp only
  by_cases c0 : v = 0
  · obtain ⟨x, i2, s2, e2, _, _⟩ := spec_l01PickInt.is b hs i' h' ([(-1), 0, 127, 128, 16383, 16384, 1000000000, 1000000001, 9223372036854775807, (-9223372036854775808)] : List Int) (by simp) g2 g3
    rw [if_pos c0, e2, Option.bind_some]
    exact ⟨_, _, _, rfl⟩
  · rw [if_neg c0]
    by_cases c1 : v = 1
    · obtain ⟨x, i2, s2, e2, _⟩ := spec_l01Below.is b hs i' h' 1000000000 g2 g3
      rw [if_pos c1, e2, Option.bind_some]
      exact ⟨_, _, _, rfl⟩
    · obtain ⟨x, i2, s2, e2, _⟩ := spec_l01Below.is b hs i' h' 400 g2 g3
      rw [if_neg c1, e2, Option.bind_some]
      exact ⟨_, _, _, rfl⟩
theorem spec_DrawVarText.ev (l : List Int) (hs : l.length ≤ 1048576) : ∃ n, Ev (fun k => spec_DrawVarText.f k l) n := by
  obtain ⟨h, ⟨K1, h1⟩⟩ := spec_l01New.ev l hs
  dsimp only at h1
  obtain ⟨v, i', h', e⟩ := spec_l01Number.is l hs 0 h (by omega) (by omega)
  refine ⟨v, K1, fun k hk => ?_⟩
  show spec_DrawVarText.f k _ = _
  unfold spec_DrawVarText.f
  rw [h1 k hk, Option.bind_some]
  dsimp only
  rw [e, Option.bind_some]
theorem spec_l01Once.is (b : List Int) (hs : b.length ≤ 1048576) (i h n : Int) (h0 : 0 ≤ i) (h1 : i ≤ b.length) : ∃ v i' h', spec_l01Once.f b i h n = some (v, i', h') ∧ 0 ≤ i' ∧ i' ≤ b.length := by
  obtain ⟨v, i', h', e, _, _, _, g0, g1⟩ := spec_l01Below.is b hs i h n h0 h1
  unfold spec_l01Once.f
  rw [e, Option.bind_some]
  exact ⟨_, _, _, rfl, g0, g1⟩
theorem spec_l01Long.ev0 (n x : Int) (hn : n ≤ 1048576) (d : Nat) : ∀ (j : Nat) (l : List Int), (j : Int) + d = n → (l.length : Int) = n → ∃ l' : List Int, Ev (fun k => spec_l01Long.l0 k n x l (j : Int)) (strOfNums l') ∧ (l'.length : Int) = n := by
  induction d with
  | zero =>
    intro j l hj hl
    refine ⟨l, ⟨1, fun k hk => ?_⟩, hl⟩
    obtain ⟨k, rfl⟩ : ∃ m, k = m + 1 := ⟨k - 1, by omega⟩
    show spec_l01Long.l0 (k + 1) _ _ _ _ = _
    rw [spec_l01Long.l0, if_neg (by omega)]
  | succ d ih =>
    intro j l hj hl
    obtain ⟨l', hh, h'⟩ := ih (j + 1) (l.set j x) (by omega) (by simp; omega)
    have e3 : Hd (wrap64 ((j : Int) + 1) = ((j + 1 : Nat) : Int)) := Hd.mk <| by rw [w64 (by omega) (by omega)]; rfl
    refine ⟨l', Ev.step (fun k => ?_) hh, h'⟩
    show spec_l01Long.l0 (k + 1) _ _ _ _ = spec_l01Long.l0 k _ _ _ _
    rw [spec_l01Long.l0, if_pos (by omega), if_pos (by omega), if_pos (by omega), e3.out]
    rfl
theorem spec_l01Long.ev (n x : Int) (h0 : 0 ≤ n) (hn : n ≤ 1048576) : ∃ t, Ev (fun k => spec_l01Long.f k n x) (mk t) ∧ (t.length : Int) = n := by
  obtain ⟨l', ⟨K, hK⟩, hl⟩ := spec_l01Long.ev0 n x hn n.toNat 0 (List.replicate n.toNat 0) (by omega) (by simp; omega)
  dsimp only at hK
  obtain ⟨t, ht⟩ := mk_of (strOfNums l')
  have hsz : (strOfNums l').size = t.length := by rw [ht, mk_size]
  rw [strOfNums_size] at hsz
  refine ⟨t, ⟨K, fun k hk => ?_⟩, by omega⟩
  show spec_l01Long.f k _ _ = _
  unfold spec_l01Long.f
  rw [if_pos h0, if_pos (by omega), ← ht]
  exact hK k hk
theorem spec_l01Text.ev0 (b : List Int) (hs : b.length ≤ 1048576) (n : Int) (hn : n ≤ 5000) (d : Nat) : ∀ (j : Nat) (acc : List UInt8) (i h : Int), n ≤ (j : Int) + d → j ≤ 5000 → acc.length = j → 0 ≤ i → i ≤ b.length → ((j : Int) ≤ n ∨ j = 0) →
    ∃ t i' h', Ev (fun k => spec_l01Text.l0 k n (nm acc) (j : Int) b i h) (mk t, i', h') ∧ (t.length : Int) = max n 0 ∧ 0 ≤ i' ∧ i' ≤ b.length := by
  induction d with
  | zero =>
    intro j acc i h hj hj2 hacc h0 h1 hjn
    refine ⟨acc, i, h, ⟨1, fun k hk => ?_⟩, by omega, h0, h1⟩
    obtain ⟨k, rfl⟩ : ∃ m, k = m + 1 := ⟨k - 1, by omega⟩
    show spec_l01Text.l0 (k + 1) _ _ _ _ _ _ = _
    rw [spec_l01Text.l0, if_neg (by omega), strOf_nm]
  | succ d ih =>
    intro j acc i h hj hj2 hacc h0 h1 hjn
    by_cases hc : (j : Int) < n
    · obtain ⟨v, i', h', e, g0, g1, g2, g3⟩ := spec_l01Byte.is b hs i h h0 h1
      obtain ⟨vn, rfl⟩ := Int.eq_ofNat_of_zero_le g0
      obtain ⟨t, i2, h2, hh, ht, k0, k1⟩ := ih (j + 1) (acc ++ [UInt8.ofNat vn]) i' h' (by omega) (by omega) (by simp; omega) g2 g3 (by omega)
      have e3 : Hd (wrap64 ((j : Int) + 1) = ((j + 1 : Nat) : Int)) := Hd.mk <| by rw [w64 (by omega) (by omega)]; rfl
      refine ⟨t, i2, h2, Ev.step (fun k => ?_) hh, ht, k0, k1⟩
      show spec_l01Text.l0 (k + 1) _ _ _ _ _ _ = spec_l01Text.l0 k _ _ _ _ _ _
      rw [spec_l01Text.l0, if_pos hc, e, Option.bind_some]
      dsimp only
      rw [if_pos (by rw [nm_length]; omega), e3.out, nm_append, nm_u8 vn (by omega), show ((vn : Int) % 256) = (vn : Int) by omega]
    · refine ⟨acc, i, h, ⟨1, fun k hk => ?_⟩, by omega, h0, h1⟩
      obtain ⟨k, rfl⟩ : ∃ m, k = m + 1 := ⟨k - 1, by omega⟩
      show spec_l01Text.l0 (k + 1) _ _ _ _ _ _ = _
      rw [spec_l01Text.l0, if_neg (by omega), strOf_nm]
theorem spec_l01Text.ev (b : List Int) (hs : b.length ≤ 1048576) (i h n : Int) (h0 : 0 ≤ i) (h1 : i ≤ b.length) :
    ∃ t i' h', Ev (fun k => spec_l01Text.f k b i h n) (mk t, i', h') ∧ (t.length : Int) = max (min n 5000) 0 ∧ 0 ≤ i' ∧ i' ≤ b.length := by
  by_cases hc : n > 5000
  · obtain ⟨t, i', h', ⟨K, hK⟩, ht, k0, k1⟩ := spec_l01Text.ev0 b hs 5000 (by omega) 5000 0 [] i h (by omega) (by omega) rfl h0 h1 (by omega)
    dsimp only at hK
    refine ⟨t, i', h', ⟨K + 1, fun k hk => ?_⟩, by omega, k0, k1⟩
    obtain ⟨k, rfl⟩ : ∃ m, k = m + 1 := ⟨k - 1, by omega⟩
    show spec_l01Text.f (k + 1) _ _ _ _ = _
    unfold spec_l01Text.f
    rw [if_pos hc, spec_l01Text.j0]
    exact hK k (by omega)
  · obtain ⟨t, i', h', ⟨K, hK⟩, ht, k0, k1⟩ := spec_l01Text.ev0 b hs n (by omega) 5000 0 [] i h (by omega) (by omega) rfl h0 h1 (by omega)
    dsimp only at hK
    refine ⟨t, i', h', ⟨K + 1, fun k hk => ?_⟩, by omega, k0, k1⟩
    obtain ⟨k, rfl⟩ : ∃ m, k = m + 1 := ⟨k - 1, by omega⟩
    show spec_l01Text.f (k + 1) _ _ _ _ = _
    unfold spec_l01Text.f
    rw [if_neg hc, spec_l01Text.j0]
    exact hK k (by omega)
theorem spec_DrawHex.ev (l : List Int) (hs : l.length ≤ 1048576) : ∃ t, Ev (fun k => spec_DrawHex.f k l) (mk t) ∧ t.length ≤ 20001 := by
  obtain ⟨h, ⟨K1, h1⟩⟩ := spec_l01New.ev l hs
  dsimp only at h1
  obtain ⟨v, i', h', e, g2, g3⟩ := spec_l01Once.is l hs 0 h 60 (by omega) (by omega)
  cases v with
  | true =>
    obtain ⟨n, i2, s2, e2, a0, _, a1, _, _⟩ := spec_l01Below.is l hs i' h' 2 g2 g3
    have := a1 (by omega)
    obtain ⟨t, ⟨K2, h2⟩, ht⟩ := spec_l01Long.ev (20000 + n) 200 (by omega) (by omega)
    dsimp only at h2
    refine ⟨t, ⟨K1 + K2, fun k hk => ?_⟩, by omega⟩
    show spec_DrawHex.f k _ = _
    unfold spec_DrawHex.f
    rw [h1 k (by omega), Option.bind_some, e, Option.bind_some, if_pos rfl]
    dsimp only
    rw [e2, Option.bind_some, w64 (by omega) (by omega), h2 k (by omega), Option.bind_some]
  | false =>
    obtain ⟨n, i2, s2, e2, a0, _, a1, b0, b1⟩ := spec_l01Below.is l hs i' h' 30 g2 g3
    have := a1 (by omega)
    obtain ⟨t, i3, s3, ⟨K2, h2⟩, ht, _, _⟩ := spec_l01Text.ev l hs i2 s2 n b0 b1
    dsimp only at h2
    refine ⟨t, ⟨K1 + K2, fun k hk => ?_⟩, by omega⟩
    show spec_DrawHex.f k _ = _
    unfold spec_DrawHex.f
    rw [h1 k (by omega), Option.bind_some, e, Option.bind_some, if_neg (by simp)]
    dsimp only
    rw [e2, Option.bind_some]
    dsimp only
    rw [h2 k (by omega), Option.bind_some]
theorem impl_within.is (a lo hi : Int) : impl_within.f a lo hi = some (decide (lo ≤ a ∧ a ≤ hi)) := by
  unfold impl_within.f
  by_cases h : a ≥ lo
  · rw [if_pos h]
    congr 1
    simp only [decide_eq_decide]
    exact ⟨fun h' => ⟨h, h'⟩, fun h' => h'.2⟩
  · rw [if_neg h, decide_eq_false (fun h' => h h'.1)]
theorem impl_VarText.ev0 (n : Nat) : ∀ (acc : List UInt8), n ≤ 9223372036854775807 → acc.length + (vt n).length ≤ 100 → Ev (fun k => impl_VarText.l0 k (n : Int) (nm acc)) (mk (acc ++ vt n), true) := by
  induction n using Nat.strongRecOn with
  | ind n ih =>
    intro acc hn hl
    have hal := nm_length acc
    by_cases h : 127 < n
    · have e1 : Int.tmod (n : Int) 128 = ((n % 128 : Nat) : Int) := tmod_nat n 128
      have e2 : Int.tdiv (n : Int) 128 = ((n / 128 : Nat) : Int) := tdiv_nat n 128
      rw [vt_big h] at hl ⊢
      have e3 : [(wrap64 ((Int.tmod (n : Int) 128) + 128)) % 256] = nm [UInt8.ofNat (n % 128 + 128)] := by
        rw [nm_u8 _ (by omega), e1, w64 (by omega) (by omega)]
        congr 1
        omega
      have := ih (n / 128) (by omega) (acc ++ [UInt8.ofNat (n % 128 + 128)]) (by omega) (by simp at hl ⊢; omega)
      rw [List.append_assoc, List.singleton_append] at this
      refine Ev.step (fun k => ?_) this
      show impl_VarText.l0 (k + 1) _ _ = _
      rw [impl_VarText.l0, if_pos (by omega), if_pos (by simp at hl; omega), e3, e2, w64 (by omega) (by omega), nm_append]
    · refine ⟨1, fun k hk => ?_⟩
      obtain ⟨k, rfl⟩ : ∃ m, k = m + 1 := ⟨k - 1, by omega⟩
      show impl_VarText.l0 (k + 1) _ _ = _
      have e3 : [(n : Int) % 256] = nm [UInt8.ofNat n] := by
        rw [nm_u8 _ (by omega)]
        congr 1
        omega
      rw [vt_small (by omega)] at hl ⊢
      rw [impl_VarText.l0, if_neg (by omega), if_pos (by simp at hl; omega), e3, ← nm_append, strOf_nm]
theorem impl_VarText.ev (n : Int) : Ev (fun k => impl_VarText.f k n) (varOf n) := by
  unfold varOf
  by_cases h : 0 ≤ n ∧ n ≤ 1000000000
  · obtain ⟨m, rfl⟩ := Int.eq_ofNat_of_zero_le h.1
    have hl := vt_len5 (n := m) (by omega)
    obtain ⟨K, hK⟩ := impl_VarText.ev0 m [] (by omega) (by simp; omega)
    dsimp only at hK
    refine ⟨K, fun k hk => ?_⟩
    show impl_VarText.f k _ = _
    unfold impl_VarText.f
    rw [impl_within.is, decide_eq_true h, if_pos h]
    simp only [Option.bind_some, if_true]
    rw [nm_nil, hK k hk]
    rfl
  · refine ⟨0, fun k hk => ?_⟩
    show impl_VarText.f k _ = _
    unfold impl_VarText.f
    rw [impl_within.is, decide_eq_false h, if_neg h]
    rfl
theorem shl_digit (m i : Nat) (h : i ≤ 4) : shl .i64 ((m % 128 : Nat) : Int) (wrap64 (7 * (i : Int))) = ((dg m i : Nat) : Int) := by
  have e : ∀ j : Nat, j ≤ 28 → shl .i64 ((m % 128 : Nat) : Int) (j : Int) = ((m % 128 : Nat) : Int) * 2 ^ j := by
    intro j hj
    unfold shl
    rw [Int.toNat_natCast, Nat.min_eq_left (show j ≤ IntKind.i64.bits by simp [IntKind.bits]; omega), IntKind.wrap_i64]
    have h2 : 2 ^ j ≤ 2 ^ 28 := Nat.pow_le_pow_right (by omega) hj
    have h4 : m % 128 * 2 ^ j ≤ 127 * 268435456 := Nat.mul_le_mul (by omega) h2
    have h5 : ((m % 128 : Nat) : Int) * 2 ^ j = ((m % 128 * 2 ^ j : Nat) : Int) := by rw [Int.natCast_mul, Int.natCast_pow]; rfl
    rw [h5]
    omega
  rw [w64 (by omega) (by omega), show (7 : Int) * (i : Int) = ((7 * i : Nat) : Int) by omega, e (7 * i) (by omega)]
  unfold dg pw
  rw [Int.natCast_mul, Int.natCast_pow, show (128 : Nat) = 2 ^ 7 from rfl, Int.natCast_pow, ← Int.pow_mul]
  rfl
theorem impl_ReadVar.ev0 (l : List UInt8) (a : Nat) (ha : a ≤ l.length) (hs : l.length ≤ 140737488351232) (f : Nat) : ∀ (i n0 : Nat), i + f = 5 → a + i ≤ l.length → n0 < pw i →
    Ev (fun k => impl_ReadVar.l0 k (mk l) (a : Int) (n0 : Int) (i : Int)) (rvFin a (lebOn n0 i (leb f (l.drop (a + i))))) := by
  have hsz := mk_size l
  induction f with
  | zero =>
    intro i n0 hi hal hn
    refine ⟨2, fun k hk => ?_⟩
    obtain ⟨k, rfl⟩ : ∃ m, k = m + 2 := ⟨k - 2, by omega⟩
    show impl_ReadVar.l0 (k + 2) _ _ _ _ = _
    rw [impl_ReadVar.l0, if_neg (by omega), impl_ReadVar.j1, if_neg (by simp)]
    rfl
  | succ f ih =>
    intro i n0 hi hal hn
    have hp := pw_le5 (i := i) (by omega)
    have ew : Hd (wrap64 ((a : Int) + (i : Int)) = ((a + i : Nat) : Int)) := Hd.mk <| by rw [w64 (by omega) (by omega)]; omega
    by_cases hlt : a + i < l.length
    · have hb : (l[a + i]).toNat < 256 := (l[a + i]).toNat_lt
      have eb : Hd (wrap64 (bt (mk l) ((a + i : Nat) : Int)) = ((l[a + i]).toNat : Int)) := Hd.mk <| by rw [bt_mk l _ hlt, w64 (by omega) (by omega)]
      have e1 : Hd (Int.tmod ((l[a + i]).toNat : Int) 128 = (((l[a + i]).toNat % 128 : Nat) : Int)) := Hd.mk <| tmod_nat _ 128
      have hd := dg_le (l[a + i]).toNat i (by omega)
      have e2 := shl_digit (l[a + i]).toNat i (by omega)
      have e3 : Hd (wrap64 ((n0 : Int) + ((dg (l[a + i]).toNat i : Nat) : Int)) = ((n0 + dg (l[a + i]).toNat i : Nat) : Int)) := Hd.mk <| by rw [w64 (by omega) (by omega)]; omega
      rw [drop_cons l (a + i) hlt]
      by_cases h128 : (l[a + i]).toNat < 128
      · rw [lebOn_last _ _ _ _ _ h128]
        obtain ⟨K, hK⟩ := impl_VarText.ev ((n0 + dg (l[a + i]).toNat i : Nat) : Int)
        dsimp only at hK
        refine ⟨K + 2, fun k hk => ?_⟩
        obtain ⟨k, rfl⟩ : ∃ m, k = m + 2 := ⟨k - 2, by omega⟩
        show impl_ReadVar.l0 (k + 2) _ _ _ _ = _
        rw [impl_ReadVar.l0, if_pos (by omega), ew.out, decide_eq_true (show ((a + i : Nat) : Int) < ((mk l).size : Int) by omega), impl_ReadVar.j1, if_pos rfl, ew.out, if_pos (by omega), if_pos (by omega),
          if_pos (by rw [w64 (by omega) (by omega)]; omega), eb.out, if_pos (by omega), e1.out, e2, e3.out, hK k (by omega), Option.bind_some]
        unfold varOf
        simp only [rvFin]
        by_cases hm : n0 + dg (l[a + i]).toNat i ≤ 1000000000
        · rw [if_pos (show 0 ≤ ((n0 + dg (l[a + i]).toNat i : Nat) : Int) ∧ ((n0 + dg (l[a + i]).toNat i : Nat) : Int) ≤ 1000000000 by omega)]
          simp only [if_true]
          rw [Int.toNat_natCast, mk_size, w64 (x := (i : Int) + 1) (by omega) (by omega)]
          by_cases hv : (vt (n0 + dg (l[a + i]).toNat i)).length = i + 1
          · rw [if_pos (by omega), if_pos ⟨hm, hv⟩, w64 (by omega) (by omega)]
            rfl
          · rw [if_neg (by omega), if_neg (fun h => hv h.2)]
        · rw [if_neg (show ¬ (0 ≤ ((n0 + dg (l[a + i]).toNat i : Nat) : Int) ∧ ((n0 + dg (l[a + i]).toNat i : Nat) : Int) ≤ 1000000000) by omega)]
          dsimp only
          rw [if_neg (by simp), if_neg (fun h => hm h.1)]
      · rw [lebOn_step _ _ _ _ _ h128]
        have hp2 : n0 + dg (l[a + i]).toNat i < pw (i + 1) := dg_lt hn
        obtain ⟨K, hK⟩ := ih (i + 1) _ (by omega) (by omega) hp2
        dsimp only at hK
        refine ⟨K + 2, fun k hk => ?_⟩
        obtain ⟨k, rfl⟩ : ∃ m, k = m + 2 := ⟨k - 2, by omega⟩
        show impl_ReadVar.l0 (k + 2) _ _ _ _ = _
        rw [impl_ReadVar.l0, if_pos (by omega), ew.out, decide_eq_true (show ((a + i : Nat) : Int) < ((mk l).size : Int) by omega), impl_ReadVar.j1, if_pos rfl, ew.out, if_pos (by omega), if_pos (by omega),
          if_pos (by rw [w64 (by omega) (by omega)]; omega), eb.out, if_neg (by omega), e1.out, e2, e3.out, w64 (x := (i : Int) + 1) (by omega) (by omega)]
        exact hK k (by omega)
    · rw [List.drop_eq_nil_of_le (by omega)]
      refine ⟨2, fun k hk => ?_⟩
      obtain ⟨k, rfl⟩ : ∃ m, k = m + 2 := ⟨k - 2, by omega⟩
      show impl_ReadVar.l0 (k + 2) _ _ _ _ = _
      rw [impl_ReadVar.l0, if_pos (by omega), ew.out, decide_eq_false (show ¬ ((a + i : Nat) : Int) < ((mk l).size : Int) by omega), impl_ReadVar.j1, if_neg (by simp)]
      rfl
theorem impl_ReadVar.ev (l : List UInt8) (hs : l.length ≤ 140737488351232) (a : Int) : Ev (fun k => impl_ReadVar.f k (mk l) a) (rvOf l a) := by
  have hsz := mk_size l
  unfold rvOf
  by_cases h : 0 ≤ a ∧ a ≤ l.length
  · obtain ⟨n, rfl⟩ := Int.eq_ofNat_of_zero_le h.1
    obtain ⟨K, hK⟩ := impl_ReadVar.ev0 l n (by omega) hs 5 0 0 (by omega) (by omega) (pw_pos 0)
    rw [lebOn_zero] at hK
    dsimp only at hK
    refine ⟨K, fun k hk => ?_⟩
    show impl_ReadVar.f k _ _ = _
    unfold impl_ReadVar.f
    rw [hsz, impl_within.is, decide_eq_true h, if_pos h]
    exact hK k hk
  · refine ⟨0, fun k hk => ?_⟩
    show impl_ReadVar.f k _ _ = _
    unfold impl_ReadVar.f
    rw [hsz, impl_within.is, decide_eq_false h, if_neg h]
    rfl
theorem impl_ReadShort.ev (l : List UInt8) (hs : l.length ≤ 140737488351232) (a : Int) : Ev (fun k => impl_ReadShort.f k (mk l) a) (rsOf l a) := by
  have hsz := mk_size l
  obtain ⟨K, hK⟩ := impl_ReadVar.ev l hs a
  dsimp only at hK
  refine ⟨K, fun k hk => ?_⟩
  show impl_ReadShort.f k _ _ = _
  unfold impl_ReadShort.f rsOf rsFin
  rw [hK k hk, Option.bind_some]
  by_cases h : (rvOf l a).2.2 = true
  · obtain ⟨n, c, m, rfl, e, h1, h2, h3, h4, h5, h6⟩ := rvOf_facts l a h
    rw [e]
    dsimp only
    rw [if_pos rfl]
    have e1 : Hd (wrap64 (((mk l).size : Int) - ((m + c : Nat) : Int)) = ((l.length - (m + c) : Nat) : Int)) := Hd.mk <| by rw [w64 (by omega) (by omega)]; omega
    have e2 : Hd (wrap64 (((m + c : Nat) : Int) + (n : Int)) = ((m + c + n : Nat) : Int)) := Hd.mk <| by rw [w64 (by omega) (by omega)]; omega
    by_cases h7 : n ≤ 20000
    · by_cases h8 : m + c + n ≤ l.length
      · rw [if_neg (by omega), e1.out, if_neg (by omega), e2.out, if_pos (by omega), if_pos (by omega), if_pos (by omega), if_pos ⟨rfl, by omega, by omega⟩, mk_extract]
        congr 3
        · rw [Int.toNat_natCast, Int.toNat_natCast, Int.toNat_natCast]
          congr 1
          omega
      · rw [if_neg (by omega), e1.out, if_pos (by omega), if_neg (fun h' => by omega)]
        rfl
    · rw [if_pos (by omega), if_neg (fun h' => by omega)]
      rfl
  · rw [if_neg h, if_neg (fun h' => h h'.1)]
    rfl
theorem impl_ShortText.ev (l : List UInt8) (hs : l.length ≤ 140737488351232) : Ev (fun k => impl_ShortText.f k (mk l)) (shortOf l) := by
  have hsz := mk_size l
  unfold shortOf
  obtain ⟨K, h⟩ := impl_VarText.ev (l.length : Int)
  dsimp only at h
  refine ⟨K, fun k hk => ?_⟩
  show impl_ShortText.f k _ = _
  unfold impl_ShortText.f
  by_cases hc : l.length ≤ 20000
  · have hl := vt_len5 (n := l.length) (by omega)
    rw [if_neg (by omega), if_pos hc, hsz, h k hk, Option.bind_some]
    unfold varOf
    rw [if_pos (show 0 ≤ (l.length : Int) ∧ (l.length : Int) ≤ 1000000000 by omega)]
    show (if (mk (vt l.length)).size + l.length ≤ 9223372036854775807 then some (mk (vt l.length) ++ mk l, true) else none) = _
    rw [if_pos (by rw [mk_size]; omega), mk_append]
  · rw [if_pos (by omega), if_neg hc]
    rfl
theorem hx_tab : ∀ n : Nat, n < 16 → bt (⟨#[48, 49, 50, 51, 52, 53, 54, 55, 56, 57, 97, 98, 99, 100, 101, 102]⟩ : ByteArray) (n : Int) = ((hx n).toNat : Int) := by decide
theorem impl_Hex.ev0 (l : List UInt8) (hs : l.length ≤ 20000) (d : Nat) : ∀ (i : Nat) (a : List UInt8), i + d = l.length → a.length = 2 * i →
    Ev (fun k => impl_Hex.l0 k (mk l) (nm a) (i : Int)) (mk (a ++ hexL (l.drop i)), true) := by
  have hsz := mk_size l
  induction d with
  | zero =>
    intro i a hi ha
    refine ⟨1, fun k hk => ?_⟩
    obtain ⟨k, rfl⟩ : ∃ m, k = m + 1 := ⟨k - 1, by omega⟩
    show impl_Hex.l0 (k + 1) _ _ _ = _
    rw [impl_Hex.l0, if_neg (by omega), List.drop_eq_nil_of_le (by omega), strOf_nm]
    simp [hexL]
  | succ d ih =>
    intro i a hi ha
    have hlt : i < l.length := by omega
    have hb : (l[i]).toNat < 256 := (l[i]).toNat_lt
    have hal := nm_length a
    rw [drop_cons l i hlt, hexL_cons, ← List.append_assoc]
    refine Ev.step (fun k => ?_) (ih (i + 1) (a ++ [hx ((l[i]).toNat / 16), hx ((l[i]).toNat % 16)]) (by omega) (by simp; omega))
    show impl_Hex.l0 (k + 1) _ _ _ = impl_Hex.l0 k _ _ _
    have e1 : Int.tmod ((l[i]).toNat : Int) 16 = (((l[i]).toNat % 16 : Nat) : Int) := tmod_nat _ 16
    have e2 : Int.tdiv ((l[i]).toNat : Int) 16 = (((l[i]).toNat / 16 : Nat) : Int) := tdiv_nat _ 16
    have e3 : (((l[i]).toNat / 16 : Nat) : Int) % 256 = (((l[i]).toNat / 16 : Nat) : Int) := by omega
    rw [impl_Hex.l0, if_pos (by omega), if_pos (by omega), bt_mk l i hlt, e1, e2, e3, if_pos (by omega), if_pos (by omega), if_pos (by omega), if_pos (by omega), hx_tab _ (by omega), hx_tab _ (by omega)]
    simp only [Option.bind_some]
    rw [if_pos (by simp only [List.length_cons, List.length_nil]; omega), w64 (by omega) (by omega), nm_append]
    rfl
theorem impl_Hex.ev (l : List UInt8) (hs : l.length ≤ 140737488351232) : Ev (fun k => impl_Hex.f k (mk l)) (hexOf l) := by
  have hsz := mk_size l
  unfold hexOf
  by_cases hc : l.length ≤ 20000
  · obtain ⟨K, h⟩ := impl_Hex.ev0 l hc l.length 0 [] (by omega) (by simp)
    dsimp only at h
    refine ⟨K, fun k hk => ?_⟩
    show impl_Hex.f k _ = _
    unfold impl_Hex.f
    rw [if_neg (by omega), if_pos hc]
    exact h k hk
  · refine ⟨0, fun k hk => ?_⟩
    show impl_Hex.f k _ = _
    unfold impl_Hex.f
    rw [if_pos (by omega), if_neg hc]
    rfl
theorem figs_at : ∀ n : Nat, n < 256 → Lib.indexByte [48, 49, 50, 51, 52, 53, 54, 55, 56, 57, 97, 98, 99, 100, 101, 102] (UInt8.ofNat n) = hvN n := by decide +kernel
theorem strings_IndexByte.figs (c : UInt8) : strings_IndexByte.f (⟨#[48, 49, 50, 51, 52, 53, 54, 55, 56, 57, 97, 98, 99, 100, 101, 102]⟩ : ByteArray) (c.toNat : Int) = some (hvN c.toNat) := by
  unfold strings_IndexByte.f stringslite_IndexByte.f
  rw [Option.bind_some, Int.toNat_natCast, ← figs_at c.toNat c.toNat_lt]
theorem impl_Unhex.ev0 (l : List UInt8) (hs : l.length ≤ 40000) (d : Nat) : ∀ (i : Nat) (acc : List UInt8) (half : Int), i % 2 = 0 → i + 2 * d = l.length → acc.length ≤ i → Ev (fun k => impl_Unhex.l0 k (mk l) (nm acc) half (i : Int)) (uhR acc (uhL (l.drop i))) := by
  have hsz := mk_size l
  induction d with
  | zero =>
    intro i acc half hi2 hi ha
    refine ⟨1, fun k hk => ?_⟩
    obtain ⟨k, rfl⟩ : ∃ m, k = m + 1 := ⟨k - 1, by omega⟩
    show impl_Unhex.l0 (k + 1) _ _ _ _ = _
    rw [impl_Unhex.l0, if_neg (by omega), List.drop_eq_nil_of_le (by omega), strOf_nm]
    simp [uhL, uhR]
  | succ d ih =>
    intro i acc half hi2 hi ha
    have h1 : i < l.length := by omega
    have h2 : i + 1 < l.length := by omega
    have e1 : Hd (wrap64 ((i : Int) + 1) = ((i + 1 : Nat) : Int)) := Hd.mk <| by rw [w64 (by omega) (by omega)]; rfl
    have e2 : Hd (wrap64 (((i + 1 : Nat) : Int) + 1) = ((i + 2 : Nat) : Int)) := Hd.mk <| by rw [w64 (by omega) (by omega)]; rfl
    have m1 : Int.tmod (i : Int) 2 = ((i % 2 : Nat) : Int) := tmod_nat i 2
    have m2 : Int.tmod ((i + 1 : Nat) : Int) 2 = (((i + 1) % 2 : Nat) : Int) := tmod_nat (i + 1) 2
    rw [drop_cons l i h1, drop_cons l (i + 1) h2]
    have va := hvN_le (l[i]).toNat
    have vb := hvN_le (l[i + 1]).toNat
    by_cases hb : hvN (l[i]).toNat < 0 ∨ hvN (l[i + 1]).toNat < 0
    · rw [uhR_bad _ _ _ _ hb]
      refine ⟨2, fun k hk => ?_⟩
      obtain ⟨k, rfl⟩ : ∃ m, k = m + 2 := ⟨k - 2, by omega⟩
      show impl_Unhex.l0 (k + 2) _ _ _ _ = _
      rw [impl_Unhex.l0, if_pos (by omega), if_pos (by omega), bt_mk l i h1, strings_IndexByte.figs, Option.bind_some]
      by_cases hc : hvN (l[i]).toNat < 0
      · rw [if_pos hc]
        rfl
      · rw [if_neg hc, if_neg (by omega), e1.out, impl_Unhex.l0, if_pos (by omega), if_pos (by omega), bt_mk l (i + 1) h2, strings_IndexByte.figs, Option.bind_some, if_pos (by omega)]
        rfl
    · rw [uhR_cons _ _ _ _ hb]
      obtain ⟨K, hK⟩ := ih (i + 2) (acc ++ [UInt8.ofNat (16 * (hvN (l[i]).toNat).toNat + (hvN (l[i + 1]).toNat).toNat)]) (hvN (l[i + 1]).toNat) (by omega) (by omega) (by simp; omega)
      dsimp only at hK
      refine ⟨K + 2, fun k hk => ?_⟩
      obtain ⟨k, rfl⟩ : ∃ m, k = m + 2 := ⟨k - 2, by omega⟩
      show impl_Unhex.l0 (k + 2) _ _ _ _ = _
      have := hK k (by omega)
      rw [nm_append, ← unhex_byte _ _ (by omega) (by omega) (by omega) (by omega)] at this
      rw [impl_Unhex.l0, if_pos (by omega), if_pos (by omega), bt_mk l i h1, strings_IndexByte.figs, Option.bind_some, if_neg (by omega), if_neg (by omega), e1.out,
        impl_Unhex.l0, if_pos (by omega), if_pos (by omega), bt_mk l (i + 1) h2, strings_IndexByte.figs, Option.bind_some, if_neg (by omega), if_pos (by omega), if_pos (by rw [nm_length]; omega), e2.out, this]
theorem impl_Unhex.ev (l : List UInt8) (hs : l.length ≤ 1048576) : Ev (fun k => impl_Unhex.f k (mk l)) (unhexOf l) := by
  have hsz := mk_size l
  unfold unhexOf
  by_cases h2 : l.length % 2 = 1
  · rw [if_pos (.inl h2)]
    refine ⟨1, fun k hk => ?_⟩
    obtain ⟨k, rfl⟩ : ∃ m, k = m + 1 := ⟨k - 1, by omega⟩
    show impl_Unhex.f (k + 1) _ = _
    unfold impl_Unhex.f
    rw [if_pos (by omega), impl_Unhex.j0, if_pos rfl]
    rfl
  · by_cases hc : l.length > 40000
    · rw [if_pos (.inr hc)]
      refine ⟨1, fun k hk => ?_⟩
      obtain ⟨k, rfl⟩ : ∃ m, k = m + 1 := ⟨k - 1, by omega⟩
      show impl_Unhex.f (k + 1) _ = _
      unfold impl_Unhex.f
      rw [if_neg (by omega), decide_eq_true (by omega), impl_Unhex.j0, if_pos rfl]
      rfl
    · rw [if_neg (by omega)]
      obtain ⟨K, hK⟩ := impl_Unhex.ev0 l (by omega) (l.length / 2) 0 [] 0 (by omega) (by omega) (by simp)
      dsimp only at hK
      refine ⟨K + 1, fun k hk => ?_⟩
      obtain ⟨k, rfl⟩ : ∃ m, k = m + 1 := ⟨k - 1, by omega⟩
      show impl_Unhex.f (k + 1) _ = _
      unfold impl_Unhex.f
      rw [if_neg (by omega), decide_eq_false (by omega), impl_Unhex.j0, if_neg (by simp)]
      exact hK k (by omega)
theorem impl_ReadDecimal.is (l : List UInt8) (hs : l.length ≤ 1048576) : impl_ReadDecimal.f (mk l) = some (rdO l) := by
  unfold impl_ReadDecimal.f rdO
  rw [if_pos (by rw [mk_size]; exact hs), mk_data]
  congr 1
  by_cases hc : rdC l
  · obtain ⟨h1, h2, h3, h4⟩ := hc
    have hl : Lib.atoiAll l = .ok (val 0 l : Int) := by
      cases l with
      | nil =>
        have e0 : Lib.decDigits 0 = [48] := by
          rw [Lib.decDigits, dif_pos (by omega)]
          rfl
        rw [val_nil] at h4
        rw [e0] at h4
        cases h4
      | cons c r =>
        have hp := parse_val (c :: r) 0 h2 h3
        have h2' := h2
        rw [digL_cons, Bool.and_eq_true, decide_eq_true_eq] at h2'
        have hn : ¬ (c.toNat = 43 ∨ c.toNat = 45) := by omega
        have hm : Lib.parseMag (c :: r) = .ok (val 0 (c :: r)) := by
          unfold Lib.parseMag
          rw [if_neg (by simp)]
          exact hp
        unfold Lib.atoiAll
        simp only [if_neg hn, hm]
        rw [if_neg (by omega), if_neg (by omega), if_neg (by omega)]
    rw [hl, if_pos (show rdC l from ⟨h1, h2, h3, h4⟩)]
    show (if Lib.itoa (val 0 l : Int) = l ∧ 0 ≤ (val 0 l : Int) ∧ (val 0 l : Int) ≤ 1000000000 then ((val 0 l : Int), true) else (0, false)) = _
    rw [if_pos ⟨by rw [itoa_nat]; exact h4, by omega, by omega⟩]
  · rw [if_neg hc]
    cases ha : Lib.atoiAll l with
    | «syntax» => rfl
    | range => rfl
    | ok v =>
      show (if Lib.itoa v = l ∧ 0 ≤ v ∧ v ≤ 1000000000 then (v, true) else ((0 : Int), false)) = _
      by_cases h : Lib.itoa v = l ∧ 0 ≤ v ∧ v ≤ 1000000000
      · obtain ⟨h1, h2, h3⟩ := h
        obtain ⟨u, rfl⟩ := Int.eq_ofNat_of_zero_le h2
        rw [itoa_nat] at h1
        obtain ⟨e1, e2, e3⟩ := dec_val 9 u (by omega)
        exact absurd (show rdC l from by
          rw [← h1]
          exact ⟨by omega, e2, by rw [e1]; omega, by rw [e1]⟩) hc
      · rw [if_neg h]
theorem impl_Decimal.is (x : Int) (h0 : -9223372036854775808 ≤ x) (h1 : x ≤ 9223372036854775807) : impl_Decimal.f x = some (mk (Lib.itoa x)) := by
  unfold impl_Decimal.f strconv_Itoa.f
  rw [if_pos ⟨h0, h1⟩, Option.bind_some]
  rfl
theorem laws_FnNumbers.ev2 (n : Nat) (hn : n ≤ 1000000000) (t : List UInt8) (ht : t.length ≤ 300) : Ev (fun k => laws_FnNumbers.j2 k (n : Int) (mk (vt n)) true (n : Int) (((vt n).length + 1 : Nat) : Int) true (n : Int) true (mk t)) true := by
  have hl := vt_len5 hn
  have hl2 := vt_len5 (n := t.length) (by omega)
  obtain ⟨K1, h1⟩ := impl_ShortText.ev t (by omega)
  obtain ⟨K2, h2⟩ := impl_ReadShort.ev (vt t.length ++ t) (by simp only [List.length_append]; omega) 0
  obtain ⟨K3, h3⟩ := impl_Hex.ev t (by omega)
  obtain ⟨K4, h4⟩ := impl_Unhex.ev (hexL t) (by rw [hexL_len]; omega)
  dsimp only at h1 h2 h3 h4
  refine ⟨K1 + K2 + K3 + K4 + 1, fun k hk => ?_⟩
  obtain ⟨k, rfl⟩ : ∃ m, k = m + 1 := ⟨k - 1, by omega⟩
  show laws_FnNumbers.j2 (k + 1) _ _ _ _ _ _ _ _ _ = _
  have e1 : shortOf t = (mk (vt t.length ++ t), true) := by unfold shortOf; rw [if_pos (by omega)]
  have e3 : hexOf t = (mk (hexL t), true) := by unfold hexOf; rw [if_pos (by omega)]
  rw [laws_FnNumbers.j2, h1 k (by omega), e1, Option.bind_some]
  dsimp only
  rw [h2 k (by omega), rs_back t (by omega), Option.bind_some, h3 k (by omega), e3, Option.bind_some]
  dsimp only
  rw [h4 k (by omega), unhex_back t (by omega), Option.bind_some]
  dsimp only
  have ew : wrap64 (((mk (vt n)).size : Int) + 1) = (((vt n).length + 1 : Nat) : Int) := by rw [mk_size, w64 (by omega) (by omega)]; rfl
  simp only [if_true]
  rw [ew, if_pos rfl, mk_size, if_pos rfl]
  simp
theorem laws_FnNumbers.ev1 (l : List Int) (hs : l.length ≤ 1048576) (n : Nat) (hn : n ≤ 1000000000) : Ev (fun k => laws_FnNumbers.j1 k l (n : Int)) true := by
  have hl := vt_len5 hn
  obtain ⟨K1, h1⟩ := impl_VarText.ev (n : Int)
  obtain ⟨K2, h2⟩ := impl_ReadVar.ev ([120] ++ (vt n ++ [121])) (by simp only [List.length_append, List.length_cons, List.length_nil]; omega) 1
  obtain ⟨t, ⟨K3, h3⟩, ht⟩ := spec_DrawHex.ev l hs
  dsimp only at h1 h2 h3
  have e1 : varOf (n : Int) = (mk (vt n), true) := by unfold varOf; rw [if_pos (by omega), Int.toNat_natCast]
  have e2 : rvOf ([120] ++ (vt n ++ [121])) 1 = ((n : Int), (((vt n).length + 1 : Nat) : Int), true) := by
    have := rv_back n hn [120] [121]
    rw [show (([120] : List UInt8).length : Int) = 1 from rfl] at this
    rw [this]
    congr 2
    simp only [List.length_cons, List.length_nil]
    omega
  have e4 : impl_Decimal.f (n : Int) = some (mk (Lib.itoa (n : Int))) := impl_Decimal.is _ (by omega) (by omega)
  have e5 : impl_ReadDecimal.f (mk (Lib.itoa (n : Int))) = some ((n : Int), true) := by
    have hlen := (dec_val 9 n (by omega)).2.2
    rw [impl_ReadDecimal.is _ (by rw [itoa_nat]; omega), rd_back n hn]
  have start : ∀ k, K1 + K2 + K3 ≤ k → laws_FnNumbers.j1 (k + 1) l (n : Int) = if ((mk t).size : Int) > 300 then laws_FnNumbers.j2 k (n : Int) (mk (vt n)) true (n : Int) (((vt n).length + 1 : Nat) : Int) true (n : Int) true (⟨#[97, 98, 99]⟩ : ByteArray) else laws_FnNumbers.j2 k (n : Int) (mk (vt n)) true (n : Int) (((vt n).length + 1 : Nat) : Int) true (n : Int) true (mk t) := fun k hk => by
    rw [laws_FnNumbers.j1, h1 k (by omega), e1, Option.bind_some]
    dsimp only
    rw [show (⟨#[120]⟩ : ByteArray) = mk [120] from rfl, show (⟨#[121]⟩ : ByteArray) = mk [121] from rfl, if_pos (by rw [mk_size]; omega), mk_append, if_pos (by rw [mk_size]; simp only [List.length_append, List.length_cons, List.length_nil]; omega), mk_append, List.append_assoc, h2 k (by omega), e2, Option.bind_some, e4, Option.bind_some, e5, Option.bind_some, h3 k (by omega), Option.bind_some]
  by_cases hc : ((mk t).size : Int) > 300
  · obtain ⟨K4, h4⟩ := laws_FnNumbers.ev2 n hn [97, 98, 99] (by simp)
    dsimp only at h4
    refine ⟨K1 + K2 + K3 + K4 + 1, fun k hk => ?_⟩
    obtain ⟨k, rfl⟩ : ∃ m, k = m + 1 := ⟨k - 1, by omega⟩
    show laws_FnNumbers.j1 (k + 1) _ _ = _
    rw [start k (by omega), if_pos hc]
    exact h4 k (by omega)
  · obtain ⟨K4, h4⟩ := laws_FnNumbers.ev2 n hn t (by rw [mk_size] at hc; omega)
    dsimp only at h4
    refine ⟨K1 + K2 + K3 + K4 + 1, fun k hk => ?_⟩
    obtain ⟨k, rfl⟩ : ∃ m, k = m + 1 := ⟨k - 1, by omega⟩
    show laws_FnNumbers.j1 (k + 1) _ _ = _
    rw [start k (by omega), if_neg hc]
    exact h4 k (by omega)
theorem FnNumbers : ∀ (l0 : List Int), (l0.length ≤ maxLen ∧ ∀ y ∈ l0, (Lit.int .u8 y).wf = true) → ∃ k, laws_FnNumbers.f k l0 = some true := by
  intro l _
  by_cases hbig : (l.length : Int) > 1048576
  · refine ⟨0, ?_⟩
    unfold laws_FnNumbers.f laws_big.f
    rw [Option.bind_some, if_pos (decide_eq_true hbig)]
  obtain ⟨n, ⟨K0, h0⟩⟩ := spec_DrawVarText.ev l (by omega)
  obtain ⟨K1, h1⟩ := laws_FnNumbers.ev1 l (by omega) 12345 (by omega)
  dsimp only at h0 h1
  have ebig : decide ((l.length : Int) > 1048576) = false := decide_eq_false hbig
  by_cases hn : 0 ≤ n ∧ n ≤ 1000000000
  · obtain ⟨m, rfl⟩ := Int.eq_ofNat_of_zero_le hn.1
    obtain ⟨K2, h2⟩ := laws_FnNumbers.ev1 l (by omega) m (by omega)
    dsimp only at h2
    refine ⟨K0 + K1 + K2 + 1, ?_⟩
    unfold laws_FnNumbers.f laws_big.f
    rw [Option.bind_some, ebig, if_neg (by decide), h0 _ (by omega), Option.bind_some, if_neg (by omega), decide_eq_false (by omega), laws_FnNumbers.j0, if_neg (by decide)]
    exact h2 _ (by omega)
  · refine ⟨K0 + K1 + 1, ?_⟩
    unfold laws_FnNumbers.f laws_big.f
    rw [Option.bind_some, ebig, if_neg (by decide), h0 _ (by omega), Option.bind_some]
    by_cases hneg : n < 0
    · rw [if_pos hneg, laws_FnNumbers.j0, if_pos rfl]
      exact h1 _ (by omega)
    · rw [if_neg hneg, decide_eq_true (by omega), laws_FnNumbers.j0, if_pos rfl]
      exact h1 _ (by omega)

end Go.Proofs.YtpnncgfmihjlkaaDoor.Pure
