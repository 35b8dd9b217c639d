/- The law FnExactReadManifest, over numbers and lists: for every input that the statement speaks of the printed function answers true; conditions: those of the printed statement. -/
import Derived.Test.YtpnncgfmihjlkaaQFnExactReadManifestx1
import Derived.Test.YtpnncgfmihjlkaaQFnExactReadManifestx2
import Derived.Test.YtpnncgfmihjlkaaQFnExactReadManifestx3
import Derived.Test.YtpnncgfmihjlkaaQFnExactReadManifestx4
import Derived.Test.YtpnncgfmihjlkaaQFnExactReadManifestx5
import Derived.Test.YtpnncgfmihjlkaaQFnExactReadManifestx6
import Derived.Test.YtpnncgfmihjlkaaQFnExactReadManifestx7
import Derived.Test.YtpnncgfmihjlkaaQFnExactReadManifestx8
import Derived.Test.YtpnncgfmihjlkaaQFnExactReadManifestx9
import Derived.Test.YtpnncgfmihjlkaaQFnExactReadManifestx10
import Derived.Test.YtpnncgfmihjlkaaQFnExactReadManifestx11
import Derived.Test.YtpnncgfmihjlkaaQFnExactReadManifestx12
import Derived.Laws.BitsAllLaws
import Derived.Sort.Walk0
import Derived.Lib.Bytealg
namespace Go.Proofs.Ytpnncgfmihjlkaa.Pure
open Go.RowKit Go.Proofs.Ytpnncgfmihjlkaa.QFnExactReadManifest Go.Proofs.YtpnncgfmihjlkaaW.PrintWords Go.Proofs.YtpnncgfmihjlkaaW.PrintLast Go.Proofs.YtpnncgfmihjlkaaW.PrintMore
set_option linter.unusedVariables false
set_option linter.unusedSimpArgs false

/-! ### strings as lists of bytes -/
def mk (l : List UInt8) : ByteArray := ⟨l.toArray⟩
def nm (l : List UInt8) : List Int := l.map fun b => (b.toNat : Int)
theorem mk_of (s : ByteArray) : ∃ l, s = mk l := ⟨s.data.toList, rfl⟩
theorem mk_data (l : List UInt8) : (mk l).data.toList = l := rfl
theorem mk_toList (l : List UInt8) : (mk l).toList = l := by rw [ByteArray.toList_eq]; rfl
theorem mk_size (l : List UInt8) : (mk l).size = l.length := List.size_toArray
theorem mk_inj {a b : List UInt8} (h : mk a = mk b) : a = b := by rw [← mk_data a, h]; rfl
theorem mk_append (a b : List UInt8) : mk a ++ mk b = mk (a ++ b) := by
  apply ByteArray.ext
  rw [ByteArray.data_append]
  simp [mk]
theorem mk_extract (l : List UInt8) (i j : Nat) : (mk l).extract i j = mk ((l.drop i).take (j - i)) := by
  apply ByteArray.ext
  rw [ByteArray.data_extract]
  apply Array.ext'
  simp [mk, List.take_drop]
theorem mk_nil : (⟨#[]⟩ : ByteArray) = mk [] := rfl
theorem nm_append (a b : List UInt8) : nm (a ++ b) = nm a ++ nm b := by simp [nm]
theorem nm_length (a : List UInt8) : (nm a).length = a.length := by simp [nm]
theorem nm_nil : ([] : List Int) = nm [] := rfl
theorem strOf_nm (l : List UInt8) : strOfNums (nm l) = mk l := by
  unfold strOfNums nm mk
  rw [List.map_map]
  congr 1
  have : ∀ l : List UInt8, List.map ((fun n : Int => UInt8.ofNat n.toNat) ∘ fun b : UInt8 => (b.toNat : Int)) l = l := by
    intro l
    induction l with
    | nil => rfl
    | cons a l ih => rw [List.map_cons, ih]; simp
  rw [this]
theorem bt_mk (l : List UInt8) (n : Nat) (h : n < l.length) : bt (mk l) (n : Int) = ((l[n]).toNat : Int) := by
  unfold bt
  rw [dif_pos (show (n : Int).toNat < (mk l).size by rw [mk_size]; omega)]
  rfl
/-- A fact that omega doesn't look into. -/
structure Hd (p : Prop) : Prop where
  mk :: (out : p)
theorem w64 {x : Int} (h0 : -9223372036854775808 ≤ x) (h1 : x ≤ 9223372036854775807) : wrap64 x = x := by
  unfold wrap64
  omega
theorem nm_u8 (n : Nat) (h : n < 256) : nm [UInt8.ofNat n] = [(n : Int)] := by
  simp [nm]
  omega
theorem tmod_nat (x d : Nat) : Int.tmod (x : Int) (d : Int) = ((x % d : Nat) : Int) := by
  rw [Int.tmod_eq_emod_of_nonneg (by omega)]
  exact (Int.natCast_emod x d).symm
theorem tdiv_nat (x d : Nat) : Int.tdiv (x : Int) (d : Int) = ((x / d : Nat) : Int) := by
  rw [Int.tdiv_eq_ediv_of_nonneg (by omega)]
  exact (Int.natCast_ediv x d).symm
theorem drop_cons (l : List UInt8) (i : Nat) (h : i < l.length) : l.drop i = l[i] :: l.drop (i + 1) := List.drop_eq_getElem_cons h
/-! ### numbers in bytes -/
def vt (n : Nat) : List UInt8 := if h : 127 < n then UInt8.ofNat (n % 128 + 128) :: vt (n / 128) else [UInt8.ofNat n]
termination_by n
decreasing_by omega
theorem vt_big {n : Nat} (h : 127 < n) : vt n = UInt8.ofNat (n % 128 + 128) :: vt (n / 128) := by rw [vt, dif_pos h]
theorem vt_small {n : Nat} (h : n ≤ 127) : vt n = [UInt8.ofNat n] := by rw [vt, dif_neg (by omega)]
theorem vt_len (d : Nat) : ∀ n : Nat, n < 128 * 128 ^ d → 1 ≤ (vt n).length ∧ (vt n).length ≤ d + 1 := by
  induction d with
  | zero => intro n h; rw [vt_small (by omega)]; simp
  | succ d ih =>
    intro n h
    by_cases hn : 127 < n
    · rw [vt_big hn]
      have := ih (n / 128) (by rw [Nat.pow_succ] at h; omega)
      simp only [List.length_cons]
      omega
    · rw [vt_small (by omega)]; simp
theorem vt_len8 {n : Nat} (h : n ≤ 9223372036854775807) : 1 ≤ (vt n).length ∧ (vt n).length ≤ 9 := vt_len 8 n (by omega)
theorem vt_len5 {n : Nat} (h : n ≤ 1000000000) : 1 ≤ (vt n).length ∧ (vt n).length ≤ 5 := vt_len 4 n (by omega)
/-- What VarText answers. -/
def varOf (n : Int) : ByteArray × Bool := if 0 ≤ n ∧ n ≤ 1000000000 then (mk (vt n.toNat), true) else (mk [], false)
/-- The number that stands at a list's head in bytes of seven bits, at most f of them; and how many bytes it has. -/
def leb : Nat → List UInt8 → Option (Nat × Nat)
  | 0, _ => none
  | _ + 1, [] => none
  | f + 1, b :: l => if b.toNat < 128 then some (b.toNat, 1) else match leb f l with
    | none => none
    | some (n, c) => some (b.toNat % 128 + 128 * n, c + 1)
theorem leb_facts : ∀ (f : Nat) (l : List UInt8) (n c : Nat), leb f l = some (n, c) → 1 ≤ c ∧ c ≤ f ∧ c ≤ l.length ∧ n < 128 ^ f
  | 0, _, _, _, h => by simp [leb] at h
  | f + 1, [], _, _, h => by simp [leb] at h
  | f + 1, b :: l, n, c, h => by
    rw [leb] at h
    have hp : 1 ≤ 128 ^ f := Nat.pow_pos (by omega)
    by_cases hb : b.toNat < 128
    · rw [if_pos hb] at h
      simp only [Option.some.injEq, Prod.mk.injEq] at h
      obtain ⟨rfl, rfl⟩ := h
      simp only [List.length_cons, Nat.pow_succ]
      omega
    · rw [if_neg hb] at h
      cases hr : leb f l with
      | none => rw [hr] at h; simp at h
      | some p =>
        obtain ⟨n', c'⟩ := p
        rw [hr] at h
        simp only [Option.some.injEq, Prod.mk.injEq] at h
        obtain ⟨rfl, rfl⟩ := h
        have := leb_facts f l n' c' hr
        simp only [List.length_cons, Nat.pow_succ]
        omega
/-- As long as its own text: just its own text. -/
theorem leb_text : ∀ (f : Nat) (l : List UInt8) (n c : Nat), leb f l = some (n, c) → (vt n).length = c → vt n = l.take c
  | 0, _, _, _, h, _ => by simp [leb] at h
  | f + 1, [], _, _, h, _ => by simp [leb] at h
  | f + 1, b :: l, n, c, h, hl => by
    rw [leb] at h
    have hb8 := b.toNat_lt
    by_cases hb : b.toNat < 128
    · rw [if_pos hb] at h
      simp only [Option.some.injEq, Prod.mk.injEq] at h
      obtain ⟨rfl, rfl⟩ := h
      rw [vt_small (by omega)]
      simp
    · rw [if_neg hb] at h
      cases hr : leb f l with
      | none => rw [hr] at h; simp at h
      | some p =>
        obtain ⟨n', c'⟩ := p
        rw [hr] at h
        simp only [Option.some.injEq, Prod.mk.injEq] at h
        obtain ⟨rfl, rfl⟩ := h
        have hf := leb_facts f l n' c' hr
        by_cases hn : 127 < b.toNat % 128 + 128 * n'
        · rw [vt_big hn] at hl ⊢
          have e1 : (b.toNat % 128 + 128 * n') / 128 = n' := by omega
          have e2 : (b.toNat % 128 + 128 * n') % 128 + 128 = b.toNat := by omega
          rw [e1] at hl
          rw [e1, e2]
          simp only [List.length_cons, Nat.add_right_cancel_iff] at hl
          rw [leb_text f l n' c' hr hl]
          simp
        · rw [vt_small (by omega)] at hl
          simp at hl
          omega
theorem leb_vt (d : Nat) : ∀ (n : Nat) (r : List UInt8), (vt n).length ≤ d → leb d (vt n ++ r) = some (n, (vt n).length) := by
  induction d with
  | zero => intro n r h; have := (vt_len n n (by have := Nat.lt_pow_self (n := n) (a := 128) (by omega); omega)).1; omega
  | succ d ih =>
    intro n r h
    by_cases hn : 127 < n
    · rw [vt_big hn] at h ⊢
      simp only [List.length_cons] at h
      have hb : (UInt8.ofNat (n % 128 + 128)).toNat = n % 128 + 128 := by rw [UInt8.toNat_ofNat']; omega
      rw [List.cons_append, leb, hb, if_neg (by omega), ih (n / 128) r (by omega)]
      simp only [List.length_cons]
      congr 2
      omega
    · rw [vt_small (by omega)]
      have hb : (UInt8.ofNat n).toNat = n := by rw [UInt8.toNat_ofNat']; omega
      rw [List.singleton_append, leb, hb, if_pos (by omega)]
      rfl
def rvFin (a : Nat) : Option (Nat × Nat) → Int × Int × Bool
  | none => (0, 0, false)
  | some (n, c) => if n ≤ 1000000000 ∧ (vt n).length = c then ((n : Int), ((a + c : Nat) : Int), true) else (0, 0, false)
/-- What ReadVar answers. -/
def rvOf (l : List UInt8) (a : Int) : Int × Int × Bool := if 0 ≤ a ∧ a ≤ l.length then rvFin a.toNat (leb 5 (l.drop a.toNat)) else (0, 0, false)
def pw (i : Nat) : Nat := 128 ^ i
theorem pw_succ (i : Nat) : pw (i + 1) = pw i * 128 := Nat.pow_succ _ _
theorem pw_pos (i : Nat) : 1 ≤ pw i := Nat.pow_pos (by omega)
theorem pw_le5 {i : Nat} (h : i ≤ 5) : 1 ≤ pw i ∧ pw i ≤ 34359738368 := ⟨pw_pos i, (Nat.pow_le_pow_right (by omega) h : 128 ^ i ≤ 128 ^ 5)⟩
theorem pw_le4 {i : Nat} (h : i ≤ 4) : pw i ≤ 268435456 := (Nat.pow_le_pow_right (by omega) h : 128 ^ i ≤ 128 ^ 4)
/-- Byte m's seven bits at place i. -/
def dg (m i : Nat) : Nat := m % 128 * pw i
theorem dg_le (m i : Nat) (h : i ≤ 4) : dg m i ≤ 34091302912 := (Nat.mul_le_mul (by omega) (pw_le4 h) : m % 128 * pw i ≤ 127 * 268435456)
theorem dg_lt {n0 m i : Nat} (h : n0 < pw i) : n0 + dg m i < pw (i + 1) := by
  have : dg m i ≤ 127 * pw i := Nat.mul_le_mul_right _ (by omega)
  rw [pw_succ]
  omega
/-- What is told behind i bytes. -/
def lebOn (n0 i : Nat) : Option (Nat × Nat) → Option (Nat × Nat)
  | none => none
  | some (n, c) => some (n0 + pw i * n, i + c)
theorem lebOn_step (f : Nat) (b : UInt8) (l : List UInt8) (n0 i : Nat) (hb : ¬ b.toNat < 128) : lebOn n0 i (leb (f + 1) (b :: l)) = lebOn (n0 + dg b.toNat i) (i + 1) (leb f l) := by
  rw [leb, if_neg hb]
  cases leb f l with
  | none => rfl
  | some p =>
    obtain ⟨n, c⟩ := p
    simp only [lebOn, pw_succ, dg]
    congr 2
    · rw [Nat.mul_add, Nat.mul_comm (pw i) (b.toNat % 128), Nat.mul_assoc, Nat.add_assoc]
    · omega
theorem lebOn_last (f : Nat) (b : UInt8) (l : List UInt8) (n0 i : Nat) (hb : b.toNat < 128) : lebOn n0 i (leb (f + 1) (b :: l)) = some (n0 + dg b.toNat i, i + 1) := by
  rw [leb, if_pos hb]
  simp only [lebOn, dg]
  rw [Nat.mod_eq_of_lt hb, Nat.mul_comm]
theorem lebOn_zero (x : Option (Nat × Nat)) : lebOn 0 0 x = x := by
  cases x with
  | none => rfl
  | some p => obtain ⟨n, c⟩ := p; simp [lebOn, pw]
/-- What ReadShort answers. -/
def rsFin (l : List UInt8) (r : Int × Int × Bool) : ByteArray × Int × Bool :=
  if r.2.2 = true ∧ r.1 ≤ 20000 ∧ r.1 ≤ (l.length : Int) - r.2.1 then (mk ((l.drop r.2.1.toNat).take r.1.toNat), r.2.1 + r.1, true) else (mk [], 0, false)
def rsOf (l : List UInt8) (a : Int) : ByteArray × Int × Bool := rsFin l (rvOf l a)
theorem rvOf_facts (l : List UInt8) (a : Int) (h : (rvOf l a).2.2 = true) : ∃ n c at_ : Nat, a = at_ ∧ rvOf l a = ((n : Int), ((at_ + c : Nat) : Int), true) ∧ 1 ≤ c ∧ c ≤ 5 ∧ at_ + c ≤ l.length ∧ n ≤ 1000000000 ∧ leb 5 (l.drop at_) = some (n, c) ∧ (vt n).length = c := by
  unfold rvOf at h ⊢
  by_cases hc : 0 ≤ a ∧ a ≤ l.length
  · rw [if_pos hc] at h ⊢
    obtain ⟨m, rfl⟩ := Int.eq_ofNat_of_zero_le hc.1
    rw [Int.toNat_natCast] at h ⊢
    cases hl : leb 5 (l.drop m) with
    | none => rw [hl] at h; simp [rvFin] at h
    | some p =>
      obtain ⟨n, c⟩ := p
      have hf := leb_facts 5 _ n c hl
      rw [List.length_drop] at hf
      rw [hl] at h
      unfold rvFin at h ⊢
      dsimp only at h ⊢
      by_cases hk : n ≤ 1000000000 ∧ (vt n).length = c
      · rw [if_pos hk]
        exact ⟨n, c, m, rfl, rfl, hf.1, hf.2.1, by omega, hk.1, hl, hk.2⟩
      · rw [if_neg hk] at h
        simp at h
  · rw [if_neg hc] at h
    simp at h
/-- C holds at i, i + 1, .., d of them. -/
def allF (C : Nat → Bool) : Nat → Nat → Bool
  | 0, _ => true
  | d + 1, i => C i && allF C d (i + 1)
theorem allF_congr {C D : Nat → Bool} (d : Nat) : ∀ i, (∀ j, i ≤ j → j < i + d → C j = D j) → allF C d i = allF D d i := by
  induction d with
  | zero => intro i h; rfl
  | succ d ih =>
    intro i h
    simp only [allF]
    rw [h i (by omega) (by omega), ih (i + 1) (fun j h1 h2 => h j (by omega) (by omega))]
theorem allF_true {C : Nat → Bool} (d : Nat) : ∀ i, allF C d i = true ↔ ∀ j, i ≤ j → j < i + d → C j = true := by
  induction d with
  | zero => intro i; simp only [allF, true_iff]; intro j h1 h2; omega
  | succ d ih =>
    intro i
    simp only [allF, Bool.and_eq_true, ih]
    constructor
    · rintro ⟨h1, h2⟩ j h3 h4
      by_cases e : j = i
      · rw [e]; exact h1
      · exact h2 j (by omega) (by omega)
    · intro h
      exact ⟨h i (by omega) (by omega), fun j h1 h2 => h j (by omega) (by omega)⟩
theorem ev_now {α : Type} {g : Nat → Option α} {r : α} (h : ∀ k, g (k + 1) = some r) : Ev g r :=
  ⟨1, fun k hk => by obtain ⟨m, rfl⟩ : ∃ m, k = m + 1 := ⟨k - 1, by omega⟩; exact h m⟩
theorem rd_nat (l : List Int) (n : Nat) : rd l (n : Int) = l.getD n 0 := rfl
/-- Place i of the list is in lo .. hi, and above the one ahead. -/
def riseC (l : List Int) (lo hi : Int) (i : Nat) : Bool := decide (lo ≤ l.getD i 0 ∧ l.getD i 0 ≤ hi) && (decide (i = 0) || decide (l.getD (i - 1) 0 < l.getD i 0))
def confOf (l : List Int) : Bool := allF (riseC l 1 4) l.length 0 && decide (1 ≤ (l.length : Int) ∧ (l.length : Int) ≤ 4)
/-- Place i of the segments. -/
def manC (l : List Int) (next : Int) (i : Nat) : Bool := decide (0 ≤ l.getD i 0 ∧ l.getD i 0 ≤ 999) && decide (¬ l.getD i 0 ≥ next) && (decide (i = 0) || decide (¬ l.getD (i - 1) 0 ≥ l.getD i 0))
def manOf (l : List Int) (next base bt : Int) (c : List Int) : Bool :=
  allF (manC l next) l.length 0 && (decide (1 ≤ (l.length : Int) ∧ (l.length : Int) ≤ 8) && (decide (next ≤ 1000) && (decide (0 ≤ base ∧ base ≤ 100000) && (decide (0 ≤ bt ∧ bt ≤ 100000) && confOf c))))
/-! ### the check sum -/
def crcBit (x : Nat) : Nat := if x % 2 = 1 then (x / 2) ^^^ 3558460437 else x / 2
def crcBits : Nat → Nat → Nat
  | 0, x => x
  | n + 1, x => crcBits n (crcBit x)
def crcL (x : Nat) (l : List UInt8) : Nat := l.foldl (fun x b => crcBits 8 (x ^^^ b.toNat)) x
theorem xor_lt32 {a b : Nat} (ha : a < 4294967296) (hb : b < 4294967296) : a ^^^ b < 4294967296 := Nat.xor_lt_two_pow (n := 32) ha hb
theorem crcBit_lt {x : Nat} (h : x < 4294967296) : crcBit x < 4294967296 := by
  unfold crcBit
  split
  · exact xor_lt32 (by omega) (by omega)
  · omega
theorem crcBits_lt : ∀ (n : Nat) {x : Nat}, x < 4294967296 → crcBits n x < 4294967296
  | 0, _, h => h
  | n + 1, _, h => crcBits_lt n (crcBit_lt h)
theorem crcL_cons (x : Nat) (b : UInt8) (l : List UInt8) : crcL x (b :: l) = crcL (crcBits 8 (x ^^^ b.toNat)) l := rfl
theorem crcL_lt : ∀ (l : List UInt8) {x : Nat}, x < 4294967296 → crcL x l < 4294967296
  | [], _, h => h
  | b :: l, _, h => crcL_lt l (crcBits_lt 8 (xor_lt32 h (by have := b.toNat_lt; omega)))
theorem crcL_append (x : Nat) (a b : List UInt8) : crcL x (a ++ b) = crcL (crcL x a) b := by simp [crcL, List.foldl_append]
def crc (l : List UInt8) : Nat := crcL 4294967295 l
theorem crc_lt (l : List UInt8) : crc l < 4294967296 := crcL_lt l (by omega)
/-- The sum in four bytes, the highest first. -/
def four (n : Nat) : List UInt8 := [UInt8.ofNat (n / 16777216 % 256), UInt8.ofNat (n / 65536 % 256), UInt8.ofNat (n / 256 % 256), UInt8.ofNat (n % 256)]
theorem four_nm (n : Nat) : ([((n : Int) / 16777216) % 256, ((n : Int) / 65536) % 256, ((n : Int) / 256) % 256, ((n : Int)) % 256] : List Int) = nm (four n) := by
  have e : ∀ m : Nat, (((UInt8.ofNat (m % 256)).toNat : Nat) : Int) = (m : Int) % 256 := by
    intro m
    rw [UInt8.toNat_ofNat']
    omega
  simp only [nm, four, List.map_cons, List.map_nil, e]
  congr
def sealOf (l : List UInt8) : ByteArray × Bool := if l.length ≤ 20000 then (mk (l ++ four (crc l)), true) else (mk [], false)
theorem four_len (n : Nat) : (four n).length = 4 := rfl
/-- The VarTexts of numbers, one behind the other. -/
def vts : List Int → List UInt8
  | [] => []
  | x :: l => vt x.toNat ++ vts l
theorem vts_append (a b : List Int) : vts (a ++ b) = vts a ++ vts b := by
  induction a with
  | nil => rfl
  | cons x a ih => simp only [List.cons_append, vts, ih, List.append_assoc]
theorem vts_len (l : List Int) (h : ∀ x ∈ l, 0 ≤ x ∧ x ≤ 1000000000) : (vts l).length ≤ 5 * l.length := by
  induction l with
  | nil => simp [vts]
  | cons x l ih =>
    have h1 := h x List.mem_cons_self
    have h2 := vt_len5 (n := x.toNat) (by omega)
    have h3 := ih (fun y hy => h y (List.mem_cons_of_mem _ hy))
    simp only [vts, List.length_append, List.length_cons]
    omega
def manT (l : List Int) (next base bt : Int) (c : List Int) : List UInt8 := vt l.length ++ vts l ++ vt next.toNat ++ vt base.toNat ++ vt bt.toNat ++ vt c.length ++ vts c
def manTextOf (l : List Int) (next base bt : Int) (c : List Int) : ByteArray × Bool := if manOf l next base bt c = true then sealOf (manT l next base bt c) else (mk [], false)
theorem allF_get {C : Nat → Bool} {n : Nat} (h : allF C n 0 = true) (i : Nat) (hi : i < n) : C i = true := (allF_true _ _).1 h i (by omega) (by omega)
theorem confOf_small {c : List Int} (h : confOf c = true) : 1 ≤ c.length ∧ c.length ≤ 4 ∧ ∀ x ∈ c, 1 ≤ x ∧ x ≤ 4 := by
  unfold confOf at h
  simp only [Bool.and_eq_true, decide_eq_true_eq] at h
  refine ⟨by omega, by omega, fun x hx => ?_⟩
  obtain ⟨i, hi, rfl⟩ := List.getElem_of_mem hx
  have := allF_get h.1 i hi
  unfold riseC at this
  simp only [Bool.and_eq_true, decide_eq_true_eq] at this
  rw [show c.getD i 0 = c[i] by simp [List.getD_eq_getElem?_getD, List.getElem?_eq_getElem hi]] at this
  omega
theorem manOf_small {l : List Int} {next base bt : Int} {c : List Int} (h : manOf l next base bt c = true) :
    1 ≤ l.length ∧ l.length ≤ 8 ∧ (∀ x ∈ l, 0 ≤ x ∧ x ≤ 999) ∧ 0 ≤ next ∧ next ≤ 1000 ∧ 0 ≤ base ∧ base ≤ 100000 ∧ 0 ≤ bt ∧ bt ≤ 100000 ∧ 1 ≤ c.length ∧ c.length ≤ 4 ∧ ∀ x ∈ c, 1 ≤ x ∧ x ≤ 4 := by
  unfold manOf at h
  simp only [Bool.and_eq_true, decide_eq_true_eq] at h
  obtain ⟨h0, h1, h2, h3, h4, h5⟩ := h
  obtain ⟨h6, h7, h8⟩ := confOf_small h5
  have hx : ∀ i (hi : i < l.length), 0 ≤ l[i] ∧ l[i] ≤ 999 ∧ l[i] < next := by
    intro i hi
    have := allF_get h0 i hi
    unfold manC at this
    simp only [Bool.and_eq_true, decide_eq_true_eq] at this
    rw [show l.getD i 0 = l[i] by simp [List.getD_eq_getElem?_getD, List.getElem?_eq_getElem hi]] at this
    omega
  have hn := hx 0 (by omega)
  refine ⟨by omega, by omega, fun x hx' => ?_, by omega, by omega, by omega, by omega, by omega, by omega, h6, h7, h8⟩
  obtain ⟨i, hi, rfl⟩ := List.getElem_of_mem hx'
  have := hx i hi
  omega

def unsealOf (l : List UInt8) : ByteArray × Bool :=
  if 4 ≤ l.length ∧ l.length ≤ 20004 ∧ l.drop (l.length - 4) = four (crc (l.take (l.length - 4))) then (mk (l.take (l.length - 4)), true) else (mk [], false)
theorem unseal_w (l : List UInt8) (h : 4 ≤ l.length) (hs : l.length ≤ 140737488351232) : wrap64 (((mk l).size : Int) - 4) = ((l.length - 4 : Nat) : Int) := by
  rw [mk_size, w64 (by omega) (by omega)]
  omega
theorem unseal_cut (l : List UInt8) (n : Nat) : (mk l).extract 0 ((n : Int)).toNat = mk (l.take n) := by
  rw [mk_extract]
  simp
theorem unseal_end (l : List UInt8) (n : Nat) (h : n ≤ l.length) : (mk l).extract ((n : Int)).toNat (mk l).size = mk (l.drop n) := by
  rw [mk_extract, mk_size, Int.toNat_natCast, List.take_of_length_le (by simp)]
/-- x stands in l at place a. -/
def at_ (l : List UInt8) (a : Nat) (x : List UInt8) : Prop := (l.drop a).take x.length = x ∧ a + x.length ≤ l.length
theorem at_app {l : List UInt8} {a : Nat} {x y : List UInt8} (h1 : at_ l a x) (h2 : at_ l (a + x.length) y) : at_ l a (x ++ y) := by
  obtain ⟨h1, h3⟩ := h1
  obtain ⟨h2, h4⟩ := h2
  refine ⟨?_, by rw [List.length_append]; omega⟩
  rw [List.length_append, List.take_add, h1, List.drop_drop, h2]
theorem at_nil {l : List UInt8} {a : Nat} (h : a ≤ l.length) : at_ l a [] := ⟨by simp, by simpa using h⟩
/-- One number read. -/
def nmOf (l : List UInt8) (a : Nat) (b : Bool) : Int × Nat × Bool := if b = true then (0, a, true) else if (rvOf l (a : Int)).2.2 = true then ((rvOf l (a : Int)).1, (rvOf l (a : Int)).2.1.toNat, false) else (0, a, true)
theorem nmOf_bad (l : List UInt8) (a : Nat) : nmOf l a true = (0, a, true) := rfl
theorem nmOf_ok (l : List UInt8) (a : Nat) (b : Bool) (h : (nmOf l a b).2.2 = false) : b = false ∧ ∃ n : Nat, (nmOf l a b).1 = n ∧ n ≤ 1000000000 ∧ (nmOf l a b).2.1 = a + (vt n).length ∧ at_ l a (vt n) ∧ 1 ≤ (vt n).length := by
  cases b with
  | true => exact absurd h (by simp [nmOf])
  | false =>
    refine ⟨rfl, ?_⟩
    by_cases hr : (rvOf l (a : Int)).2.2 = true
    · obtain ⟨n, c, at_', h1, h2, h3, h4, h5, h6, h7, h8⟩ := rvOf_facts l (a : Int) hr
      obtain rfl : a = at_' := by omega
      have h9 := leb_text 5 _ n c h7 h8
      refine ⟨n, ?_, h6, ?_, ⟨?_, by omega⟩, by omega⟩
      · unfold nmOf
        rw [if_neg (by simp), if_pos hr, h2]
      · unfold nmOf
        rw [if_neg (by simp), if_pos hr, h2, h8]
        exact Int.toNat_natCast _
      · rw [h8, ← h9]
    · unfold nmOf at h
      rw [if_neg (by simp), if_neg hr] at h
      exact absurd h (by simp)
theorem nmOf_rng (l : List UInt8) (a : Nat) (b : Bool) (ha : a ≤ l.length) : ∃ n : Nat, (nmOf l a b).1 = n ∧ n ≤ 1000000000 ∧ (nmOf l a b).2.1 ≤ l.length := by
  by_cases h : (nmOf l a b).2.2 = false
  · obtain ⟨_, n, h1, h2, h3, h4, _⟩ := nmOf_ok l a b h
    exact ⟨n, h1, h2, by rw [h3]; exact h4.2⟩
  · unfold nmOf at h ⊢
    by_cases hb : b = true
    · rw [if_pos hb]
      exact ⟨0, rfl, by omega, ha⟩
    · rw [if_neg hb] at h ⊢
      by_cases hr : (rvOf l (a : Int)).2.2 = true
      · rw [if_pos hr] at h
        exact absurd rfl h
      · rw [if_neg hr]
        exact ⟨0, rfl, by omega, ha⟩
/-- At most so many numbers read, one behind the other. -/
def rdn (l : List UInt8) : Nat → Nat → Bool → List Int × Nat × Bool
  | 0, a, b => ([], a, b)
  | c + 1, a, b => if b = true then ([], a, b) else ((nmOf l a b).1 :: (rdn l c (nmOf l a b).2.1 (nmOf l a b).2.2).1, (rdn l c (nmOf l a b).2.1 (nmOf l a b).2.2).2)
theorem rdn_bad (l : List UInt8) (c a : Nat) : rdn l c a true = ([], a, true) := by
  cases c with
  | zero => rfl
  | succ c => rw [rdn, if_pos rfl]
theorem rdn_len (l : List UInt8) : ∀ (c a : Nat) (b : Bool), (rdn l c a b).1.length ≤ c
  | 0, a, b => Nat.le_refl _
  | c + 1, a, b => by
    rw [rdn]
    by_cases hb : b = true
    · rw [if_pos hb]
      exact Nat.zero_le _
    · rw [if_neg hb]
      have := rdn_len l c (nmOf l a b).2.1 (nmOf l a b).2.2
      simp only [List.length_cons]
      omega
theorem rdn_rng (l : List UInt8) : ∀ (c a : Nat) (b : Bool), a ≤ l.length → (rdn l c a b).2.1 ≤ l.length
  | 0, a, b, h => h
  | c + 1, a, b, h => by
    rw [rdn]
    by_cases hb : b = true
    · rw [if_pos hb]
      exact h
    · rw [if_neg hb]
      obtain ⟨_, _, _, h2⟩ := nmOf_rng l a b h
      exact rdn_rng l c _ _ h2
theorem rdn_ok (l : List UInt8) : ∀ (c a : Nat) (b : Bool), a ≤ l.length → (rdn l c a b).2.2 = false → b = false ∧ (rdn l c a b).1.length = c ∧ (∀ x ∈ (rdn l c a b).1, 0 ≤ x ∧ x ≤ 1000000000) ∧ (rdn l c a b).2.1 = a + (vts (rdn l c a b).1).length ∧ at_ l a (vts (rdn l c a b).1)
  | 0, a, b, h, hb => ⟨hb, rfl, fun x hx => (by cases hx), rfl, at_nil h⟩
  | c + 1, a, b, h, hb => by
    rw [rdn] at hb ⊢
    by_cases h1 : b = true
    · rw [if_pos h1] at hb
      rw [h1] at hb
      cases hb
    · rw [if_neg h1] at hb ⊢
      have hrng := nmOf_rng l a b h
      obtain ⟨_, _, _, h2⟩ := hrng
      obtain ⟨g1, g2, g3, g4, g5⟩ := rdn_ok l c _ _ h2 hb
      obtain ⟨k1, n, k2, k3, k4, k5, _⟩ := nmOf_ok l a b g1
      refine ⟨k1, by simp only [List.length_cons, g2], fun x hx => ?_, ?_, ?_⟩
      · rcases List.mem_cons.1 hx with rfl | hx
        · rw [k2]
          omega
        · exact g3 x hx
      · simp only [vts]
        rw [g4, k4, k2, Int.toNat_natCast, List.length_append]
        omega
      · simp only [vts]
        rw [k2, Int.toNat_natCast]
        exact at_app k5 (by rw [← k4]; exact g5)

theorem rdn_small (l : List UInt8) (hl : l.length ≤ 20000) : ∀ (c a : Nat) (b : Bool), a ≤ l.length → (rdn l c a b).1.length ≤ 20000 ∨ (rdn l c a b).1.length ≤ 1048576 := by
  have key : ∀ (c a : Nat) (b : Bool), a ≤ l.length → (rdn l c a b).1.length + a ≤ l.length + 1 := by
    intro c
    induction c with
    | zero => intro a b h; simp only [rdn, List.length_nil]; omega
    | succ c ih =>
      intro a b h
      rw [rdn]
      by_cases hb : b = true
      · rw [if_pos hb]
        simp only [List.length_nil]
        omega
      · rw [if_neg hb]
        obtain ⟨n, h1, h2, h3⟩ := nmOf_rng l a b h
        by_cases h4 : (nmOf l a b).2.2 = false
        · obtain ⟨_, m, k1, k2, k3, k4, k5⟩ := nmOf_ok l a b h4
          have := ih (nmOf l a b).2.1 (nmOf l a b).2.2 h3
          simp only [List.length_cons]
          omega
        · have h5 : (nmOf l a b).2.2 = true := by
            cases h6 : (nmOf l a b).2.2 with
            | true => rfl
            | false => exact absurd h6 h4
          rw [h5, rdn_bad]
          simp only [List.length_cons, List.length_nil]
          omega
  intro c a b h
  have := key c a b h
  omega

/-- A manifest's parts, read; f and g: how many are read of so many. -/
structure Mr where
  segs : List Int
  n1 : Int
  n2 : Int
  n3 : Int
  conf : List Int
  a : Nat
  b : Bool
  c0 : Nat
  c4 : Nat
def rdTail (l : List UInt8) (q0 : List Int × Nat × Bool) (g : Nat → Nat) (c0 : Nat) : Mr :=
  let r1 := nmOf l q0.2.1 q0.2.2
  let r2 := nmOf l r1.2.1 r1.2.2
  let r3 := nmOf l r2.2.1 r2.2.2
  let r4 := nmOf l r3.2.1 r3.2.2
  let q4 := rdn l (g r4.1.toNat) r4.2.1 r4.2.2
  ⟨q0.1, r1.1, r2.1, r3.1, q4.1, q4.2.1, q4.2.2, c0, r4.1.toNat⟩
def rdMan (l : List UInt8) (b : Bool) (f g : Nat → Nat) : Mr :=
  let r0 := nmOf l 0 b
  let q0 := rdn l (f r0.1.toNat) r0.2.1 r0.2.2
  rdTail l q0 g r0.1.toNat
/-- All was there: the counts, and the text. -/
theorem rdMan_ok (l : List UInt8) (b : Bool) (f g : Nat → Nat) (h : (rdMan l b f g).b = false) : (rdMan l b f g).segs.length = f (rdMan l b f g).c0 ∧ (rdMan l b f g).conf.length = g (rdMan l b f g).c4 ∧
    (f (rdMan l b f g).c0 = (rdMan l b f g).c0 → g (rdMan l b f g).c4 = (rdMan l b f g).c4 → (rdMan l b f g).a = (manT (rdMan l b f g).segs (rdMan l b f g).n1 (rdMan l b f g).n2 (rdMan l b f g).n3 (rdMan l b f g).conf).length ∧
      at_ l 0 (manT (rdMan l b f g).segs (rdMan l b f g).n1 (rdMan l b f g).n2 (rdMan l b f g).n3 (rdMan l b f g).conf)) := by
  unfold rdMan rdTail at h ⊢
  dsimp only at h ⊢
  obtain ⟨n0, e0, _, l0⟩ := nmOf_rng l 0 b (Nat.zero_le _)
  generalize hr0 : nmOf l 0 b = r0 at *
  have lq0 := rdn_rng l (f r0.1.toNat) r0.2.1 r0.2.2 l0
  generalize hq0 : rdn l (f r0.1.toNat) r0.2.1 r0.2.2 = q0 at *
  obtain ⟨n1, e1, _, l1⟩ := nmOf_rng l q0.2.1 q0.2.2 lq0
  generalize hr1 : nmOf l q0.2.1 q0.2.2 = r1 at *
  obtain ⟨n2, e2, _, l2⟩ := nmOf_rng l r1.2.1 r1.2.2 l1
  generalize hr2 : nmOf l r1.2.1 r1.2.2 = r2 at *
  obtain ⟨n3, e3, _, l3⟩ := nmOf_rng l r2.2.1 r2.2.2 l2
  generalize hr3 : nmOf l r2.2.1 r2.2.2 = r3 at *
  obtain ⟨n4, e4, _, l4⟩ := nmOf_rng l r3.2.1 r3.2.2 l3
  generalize hr4 : nmOf l r3.2.1 r3.2.2 = r4 at *
  obtain ⟨b4, g1, g2, g3, g4⟩ := rdn_ok l (g r4.1.toNat) r4.2.1 r4.2.2 l4 h
  obtain ⟨b3, m4, k1, k2, k3, k4, _⟩ := nmOf_ok l r3.2.1 r3.2.2 (by rw [hr4]; exact b4)
  obtain ⟨b2, m3, k5, k6, k7, k8, _⟩ := nmOf_ok l r2.2.1 r2.2.2 (by rw [hr3]; exact b3)
  obtain ⟨b1, m2, k9, j1, j2, j3, _⟩ := nmOf_ok l r1.2.1 r1.2.2 (by rw [hr2]; exact b2)
  obtain ⟨b0, m1, j4, j5, j6, j7, _⟩ := nmOf_ok l q0.2.1 q0.2.2 (by rw [hr1]; exact b1)
  obtain ⟨bb, i1, i2, i3, i4⟩ := rdn_ok l (f r0.1.toNat) r0.2.1 r0.2.2 l0 (by rw [hq0]; exact b0)
  obtain ⟨_, m0, i5, i6, i7, i8, _⟩ := nmOf_ok l 0 b (by rw [hr0]; exact bb)
  rw [hr4] at k1 k3
  rw [hr3] at k5 k7
  rw [hr2] at k9 j2
  rw [hr1] at j4 j6
  rw [hq0] at i1 i2 i3 i4
  rw [hr0] at i5 i7
  refine ⟨i1, g1, fun hf hg => ?_⟩
  have hs0 : q0.1.length = m0 := by rw [i1, hf, i5, Int.toNat_natCast]
  have hs4 : (rdn l (g r4.1.toNat) r4.2.1 r4.2.2).1.length = m4 := by rw [g1, hg, k1, Int.toNat_natCast]
  generalize hq4 : rdn l (g r4.1.toNat) r4.2.1 r4.2.2 = q4 at *
  have hm : manT q0.1 r1.1 r2.1 r3.1 q4.1 = vt m0 ++ vts q0.1 ++ vt m1 ++ vt m2 ++ vt m3 ++ vt m4 ++ vts q4.1 := by
    unfold manT
    rw [hs0, hs4, j4, k9, k5, Int.toNat_natCast, Int.toNat_natCast, Int.toNat_natCast]
  rw [hm]
  refine ⟨?_, ?_⟩
  · rw [g3, k3, k7, j2, j6, i3, i7]
    simp only [List.length_append]
    omega
  · have p1 := at_app i8 (by rw [← i7]; exact i4)
    have p2 := at_app p1 (y := vt m1) (by rw [List.length_append, ← Nat.add_assoc, ← i7, ← i3]; exact j7)
    have p3 := at_app p2 (y := vt m2) (by rw [List.length_append, List.length_append, ← Nat.add_assoc, ← Nat.add_assoc, ← i7, ← i3, ← j6]; exact j3)
    have p4 := at_app p3 (y := vt m3) (by rw [List.length_append, List.length_append, List.length_append, ← Nat.add_assoc, ← Nat.add_assoc, ← Nat.add_assoc, ← i7, ← i3, ← j6, ← j2]; exact k8)
    have p5 := at_app p4 (y := vt m4) (by rw [List.length_append, List.length_append, List.length_append, List.length_append, ← Nat.add_assoc, ← Nat.add_assoc, ← Nat.add_assoc, ← Nat.add_assoc, ← i7, ← i3, ← j6, ← j2, ← k7]; exact k4)
    exact at_app p5 (by rw [List.length_append, List.length_append, List.length_append, List.length_append, List.length_append, ← Nat.add_assoc, ← Nat.add_assoc, ← Nat.add_assoc, ← Nat.add_assoc, ← Nat.add_assoc, ← i7, ← i3, ← j6, ← j2, ← k7, ← k3]; exact g4)
/-- The inner text of a sealed one. -/
def unsL (t : List UInt8) : List UInt8 × Bool := if 4 ≤ t.length ∧ t.length ≤ 20004 ∧ t.drop (t.length - 4) = four (crc (t.take (t.length - 4))) then (t.take (t.length - 4), true) else ([], false)
theorem unsealOf_L (t : List UInt8) : unsealOf t = (mk (unsL t).1, (unsL t).2) := by
  unfold unsealOf unsL
  by_cases h : 4 ≤ t.length ∧ t.length ≤ 20004 ∧ t.drop (t.length - 4) = four (crc (t.take (t.length - 4)))
  · rw [if_pos h, if_pos h]
  · rw [if_neg h, if_neg h]
theorem unsL_len (t : List UInt8) : (unsL t).1.length ≤ 20000 := by
  unfold unsL
  by_cases h : 4 ≤ t.length ∧ t.length ≤ 20004 ∧ t.drop (t.length - 4) = four (crc (t.take (t.length - 4)))
  · rw [if_pos h]
    simp
    omega
  · rw [if_neg h]
    simp
theorem unsL_ok (t : List UInt8) (h : (unsL t).2 = true) : t = (unsL t).1 ++ four (crc (unsL t).1) := by
  unfold unsL at h ⊢
  by_cases hc : 4 ≤ t.length ∧ t.length ≤ 20004 ∧ t.drop (t.length - 4) = four (crc (t.take (t.length - 4)))
  · rw [if_pos hc]
    conv => lhs; rw [← List.take_append_drop (t.length - 4) t, hc.2.2]
  · rw [if_neg hc] at h
    exact absurd h (by simp)
abbrev ManRes := List Int × Int × Int × Int × List Int × Bool
def manNo : ManRes := (([] : List Int), 0, 0, 0, ([] : List Int), false)
def specFin (t : List UInt8) (m : Mr) : ManRes := if m.b = true then manNo else if (manTextOf m.segs m.n1 m.n2 m.n3 m.conf).2 = true ∧ (manTextOf m.segs m.n1 m.n2 m.n3 m.conf).1 = mk t then (m.segs, m.n1, m.n2, m.n3, m.conf, true) else manNo
def implFin (l : List UInt8) (m : Mr) : ManRes := if m.b = false ∧ m.a = l.length then (if manOf m.segs m.n1 m.n2 m.n3 m.conf = true then (m.segs, m.n1, m.n2, m.n3, m.conf, true) else manNo) else manNo
def specMan (t : List UInt8) : ManRes := specFin t (rdMan (unsL t).1 (!(unsL t).2) (fun n => min n 9) (fun n => min n 5))
def implMan (t : List UInt8) : ManRes := if (unsL t).2 = true then implFin (unsL t).1 (rdMan (unsL t).1 false id id) else manNo
theorem manT_len {l : List Int} {next base bt : Int} {c : List Int} (h : manOf l next base bt c = true) : (manT l next base bt c).length ≤ 200 := by
  obtain ⟨a1, a2, a3, a4, a5, a6, a7, a8, a9, b1, b2, b3⟩ := manOf_small h
  have h1 := vt_len5 (n := l.length) (by omega)
  have h2 := vt_len5 (n := next.toNat) (by omega)
  have h3 := vt_len5 (n := base.toNat) (by omega)
  have h4 := vt_len5 (n := bt.toNat) (by omega)
  have h5 := vt_len5 (n := c.length) (by omega)
  have h6 := vts_len l (fun x hx => by have := a3 x hx; omega)
  have h7 := vts_len c (fun x hx => by have := b3 x hx; omega)
  unfold manT
  simp only [List.length_append]
  omega
theorem rdMan_true (l : List UInt8) (f g : Nat → Nat) : (rdMan l true f g).b = true := by
  unfold rdMan rdTail
  simp only [nmOf_bad, rdn_bad]
theorem man_same (t : List UInt8) : specMan t = implMan t := by
  unfold specMan implMan
  by_cases hu : (unsL t).2 = true
  · rw [if_pos hu, hu]
    have ht := unsL_ok t hu
    generalize (unsL t).1 = l at *
    simp only [Bool.not_true]
    by_cases hc : (rdMan l false (fun n => min n 9) (fun n => min n 5)).c0 ≤ 9 ∧ (rdMan l false (fun n => min n 9) (fun n => min n 5)).c4 ≤ 5
    · have hsame : rdMan l false (fun n => min n 9) (fun n => min n 5) = rdMan l false id id := by
        unfold rdMan rdTail at hc ⊢
        dsimp only at hc ⊢
        obtain ⟨h1, h2⟩ := hc
        rw [Nat.min_eq_left h1] at h2 ⊢
        rw [Nat.min_eq_left h2]
        rfl
      rw [hsame]
      have hok := rdMan_ok l false id id
      generalize rdMan l false id id = m at *
      unfold specFin implFin
      by_cases hb : m.b = true
      · rw [if_pos hb, if_neg (by rw [hb]; simp)]
      · have hb' : m.b = false := Bool.eq_false_iff.2 hb
        obtain ⟨_, _, h3⟩ := hok hb'
        obtain ⟨h4, h5⟩ := h3 rfl rfl
        rw [if_neg hb]
        by_cases hm : manOf m.segs m.n1 m.n2 m.n3 m.conf = true
        · have hl := manT_len hm
          have e1 : manTextOf m.segs m.n1 m.n2 m.n3 m.conf = (mk (manT m.segs m.n1 m.n2 m.n3 m.conf ++ four (crc (manT m.segs m.n1 m.n2 m.n3 m.conf))), true) := by
            unfold manTextOf sealOf
            rw [if_pos hm, if_pos (by omega)]
          rw [e1]
          generalize manT m.segs m.n1 m.n2 m.n3 m.conf = x at *
          by_cases ha : m.a = l.length
          · have hx : l = x := by
              have h6 := h5.1
              rw [List.drop_zero, List.take_of_length_le (by omega)] at h6
              exact h6
            rw [if_pos ⟨rfl, by rw [ht, hx]⟩, if_pos ⟨hb', ha⟩, if_pos hm]
          · rw [if_neg (fun h => ha ?_), if_neg (fun h => ha h.2)]
            have h7 := congrArg List.length (mk_inj h.2)
            rw [ht, List.length_append, List.length_append, four_len, four_len] at h7
            omega
        · rw [if_neg (fun h => hm ?_)]
          · by_cases ha : m.b = false ∧ m.a = l.length
            · rw [if_pos ha, if_neg hm]
            · rw [if_neg ha]
          · unfold manTextOf at h
            by_cases hm2 : manOf m.segs m.n1 m.n2 m.n3 m.conf = true
            · exact hm2
            · rw [if_neg hm2] at h
              exact absurd h.1 (by simp)
    · have hno : ∀ m : Mr, (m.b = false → ¬ m.segs.length ≤ 8 ∨ ¬ m.conf.length ≤ 4) → specFin t m = manNo ∧ implFin l m = manNo := by
        intro m h
        unfold specFin implFin
        by_cases hb : m.b = true
        · rw [if_pos hb, if_neg (by rw [hb]; simp)]
          exact ⟨rfl, rfl⟩
        · have hb' : m.b = false := Bool.eq_false_iff.2 hb
          have hm : ¬ manOf m.segs m.n1 m.n2 m.n3 m.conf = true := fun hm => by
            obtain ⟨a1, a2, a3, a4, a5, a6, a7, a8, a9, b1, b2, b3⟩ := manOf_small hm
            rcases h hb' with h | h <;> omega
          rw [if_neg hb, if_neg (fun h => by
            unfold manTextOf at h
            rw [if_neg hm] at h
            exact absurd h.1 (by simp))]
          refine ⟨rfl, ?_⟩
          by_cases ha : m.b = false ∧ m.a = l.length
          · rw [if_pos ha, if_neg hm]
          · rw [if_neg ha]
      have hc0 : (rdMan l false (fun n => min n 9) (fun n => min n 5)).c0 = (rdMan l false id id).c0 := rfl
      have hc4 : (rdMan l false (fun n => min n 9) (fun n => min n 5)).c0 ≤ 9 → (rdMan l false (fun n => min n 9) (fun n => min n 5)).c4 = (rdMan l false id id).c4 := by
        unfold rdMan rdTail
        dsimp only
        intro h
        rw [Nat.min_eq_left h]
        rfl
      rw [(hno _ fun hb => ?_).1, (hno _ fun hb => ?_).2]
      · obtain ⟨h1, h2, _⟩ := rdMan_ok l false id id hb
        simp only [id] at h1 h2
        by_cases h3 : (rdMan l false (fun n => min n 9) (fun n => min n 5)).c0 ≤ 9
        · have h4 := hc4 h3
          exact .inr (by have := fun h5 => hc ⟨h3, h5⟩; omega)
        · exact .inl (by rw [hc0] at h3; omega)
      · obtain ⟨h1, h2, _⟩ := rdMan_ok l false _ _ hb
        by_cases h3 : (rdMan l false (fun n => min n 9) (fun n => min n 5)).c0 ≤ 9
        · exact .inr (by have := fun h5 => hc ⟨h3, h5⟩; omega)
        · exact .inl (by omega)
  · rw [if_neg hu, Bool.eq_false_iff.2 hu]
    unfold specFin
    rw [Bool.not_false, rdMan_true, if_pos rfl]

theorem spec_l01Var.ev0 (n : Nat) : ∀ (acc : List UInt8), n ≤ 9223372036854775807 → acc.length + (vt n).length ≤ 100 → Ev (fun k => spec_l01Var.l0 k (n : Int) (nm acc)) (mk (acc ++ vt n)) := by
  induction n using Nat.strongRecOn with
  | ind n ih =>
    intro acc hn hl
    have hal := nm_length acc
    by_cases h : 127 < n
    · have e1 : Int.tmod (n : Int) 128 = ((n % 128 : Nat) : Int) := tmod_nat n 128
      have e2 : Int.tdiv (n : Int) 128 = ((n / 128 : Nat) : Int) := tdiv_nat n 128
      rw [vt_big h] at hl ⊢
      have e3 : [(wrap64 ((Int.tmod (n : Int) 128) + 128)) % 256] = nm [UInt8.ofNat (n % 128 + 128)] := by
        rw [nm_u8 _ (by omega), e1, w64 (by omega) (by omega)]
        congr 1
        omega
      have := ih (n / 128) (by omega) (acc ++ [UInt8.ofNat (n % 128 + 128)]) (by omega) (by simp at hl ⊢; omega)
      rw [List.append_assoc, List.singleton_append] at this
      refine Ev.step (fun k => ?_) this
      show spec_l01Var.l0 (k + 1) _ _ = _
      rw [spec_l01Var.l0, if_pos (by omega), if_pos (by simp at hl; omega), e3, e2, w64 (by omega) (by omega), nm_append]
    · refine ⟨1, fun k hk => ?_⟩
      obtain ⟨k, rfl⟩ : ∃ m, k = m + 1 := ⟨k - 1, by omega⟩
      show spec_l01Var.l0 (k + 1) _ _ = _
      have e3 : [(n : Int) % 256] = nm [UInt8.ofNat n] := by
        rw [nm_u8 _ (by omega)]
        congr 1
        omega
      rw [vt_small (by omega)] at hl ⊢
      rw [spec_l01Var.l0, if_neg (by omega), if_pos (by simp at hl; omega), e3, ← nm_append, strOf_nm]
theorem spec_l01In.is (a lo hi : Int) : spec_l01In.f a lo hi = some (decide (lo ≤ a ∧ a ≤ hi)) := by
  unfold spec_l01In.f
  by_cases h : a ≥ lo
  · rw [if_pos h]
    congr 1
    simp only [decide_eq_decide]
    exact ⟨fun h' => ⟨h, h'⟩, fun h' => h'.2⟩
  · rw [if_neg h, decide_eq_false (fun h' => h h'.1)]
theorem spec_ReadVar.ev0 (l : List UInt8) (a : Nat) (ha : a ≤ l.length) (hs : l.length ≤ 140737488351232) (f : Nat) : ∀ (i n0 : Nat), i + f = 5 → a + i ≤ l.length → n0 < pw i → lebOn n0 i (leb f (l.drop (a + i))) = leb 5 (l.drop a) →
    Ev (fun k => spec_ReadVar.l0 k (mk l) (a : Int) (n0 : Int) ((pw i : Nat) : Int) ((a + i : Nat) : Int)) (rvFin a (leb 5 (l.drop a))) := by
  have hsz := mk_size l
  have e5 : Hd (wrap64 ((a : Int) + 5) = (a : Int) + 5) := Hd.mk <| w64 (by omega) (by omega)
  induction f with
  | zero =>
    intro i n0 hi hal hn hL
    rw [← hL]
    refine ⟨2, fun k hk => ?_⟩
    obtain ⟨k, rfl⟩ : ∃ m, k = m + 2 := ⟨k - 2, by omega⟩
    show spec_ReadVar.l0 (k + 2) _ _ _ _ _ = _
    rw [spec_ReadVar.l0, e5.out]
    by_cases hlt : a + i < l.length
    · rw [if_pos (by omega), decide_eq_false (by omega), spec_ReadVar.j1, if_neg (by simp)]
      rfl
    · rw [if_neg (by omega), spec_ReadVar.j1, if_neg (by simp)]
      rfl
  | succ f ih =>
    intro i n0 hi hal hn hL
    have hp := pw_le5 (i := i) (by omega)
    by_cases hlt : a + i < l.length
    · have hb : (l[a + i]).toNat < 256 := (l[a + i]).toNat_lt
      have eb := bt_mk l (a + i) hlt
      have ebw : Hd (wrap64 ((l[a + i]).toNat : Int) = ((l[a + i]).toNat : Int)) := Hd.mk <| w64 (by omega) (by omega)
      have e1 : Hd (Int.tmod ((l[a + i]).toNat : Int) 128 = (((l[a + i]).toNat % 128 : Nat) : Int)) := Hd.mk <| tmod_nat _ 128
      have hd := dg_le (l[a + i]).toNat i (by omega)
      have e2 : Hd (wrap64 ((((l[a + i]).toNat % 128 : Nat) : Int) * ((pw i : Nat) : Int)) = ((dg (l[a + i]).toNat i : Nat) : Int)) := Hd.mk <| by
        rw [← Int.natCast_mul]
        exact w64 (x := ((dg (l[a + i]).toNat i : Nat) : Int)) (by omega) (by omega)
      have e3 : Hd (wrap64 ((n0 : Int) + ((dg (l[a + i]).toNat i : Nat) : Int)) = ((n0 + dg (l[a + i]).toNat i : Nat) : Int)) := Hd.mk <| by rw [w64 (by omega) (by omega)]; omega
      have e4 : Hd (wrap64 (((a + i : Nat) : Int) + 1) = ((a + (i + 1) : Nat) : Int)) := Hd.mk <| by rw [w64 (by omega) (by omega)]; omega
      have ht : (mk l).extract ((a : Int)).toNat (((a + (i + 1) : Nat) : Int)).toNat = mk ((l.drop a).take (i + 1)) := by
        rw [mk_extract, Int.toNat_natCast, Int.toNat_natCast]
        congr 2
        omega
      by_cases h128 : (l[a + i]).toNat < 128
      · rw [drop_cons l (a + i) hlt, lebOn_last _ _ _ _ _ h128] at hL
        rw [← hL]
        obtain ⟨K, hK⟩ := spec_l01Var.ev0 (n0 + dg (l[a + i]).toNat i) [] (by omega) (by have := (vt_len8 (n := n0 + dg (l[a + i]).toNat i) (by omega)); simp; omega)
        dsimp only at hK
        refine ⟨K + 2, fun k hk => ?_⟩
        obtain ⟨k, rfl⟩ : ∃ m, k = m + 2 := ⟨k - 2, by omega⟩
        show spec_ReadVar.l0 (k + 2) _ _ _ _ _ = _
        rw [spec_ReadVar.l0, if_pos (by omega), e5.out, decide_eq_true (show ((a + i : Nat) : Int) < (a : Int) + 5 by omega), spec_ReadVar.j1, if_pos rfl, if_pos (by omega), if_pos (by omega), eb, if_pos (by omega), ebw.out, e1.out, e2.out, e3.out, e4.out]
        unfold spec_l01Var.f
        simp only [rvFin]
        by_cases hm : n0 + dg (l[a + i]).toNat i ≤ 1000000000
        · rw [if_neg (by omega), nm_nil, hK k (by omega), Option.bind_some, if_pos (by omega), if_pos (by omega), if_pos (by omega), ht, mk_toList, mk_toList, List.nil_append]
          by_cases hv : (vt (n0 + dg (l[a + i]).toNat i)).length = i + 1
          · have htx : vt (n0 + dg (l[a + i]).toNat i) = (l.drop a).take (i + 1) := leb_text 5 _ _ _ hL.symm hv
            rw [if_pos htx, if_pos ⟨hm, hv⟩]
          · rw [if_neg (fun h => hv (by rw [h, List.length_take, List.length_drop]; omega)), if_neg (fun h => hv h.2)]
        · rw [if_pos (by omega), if_neg (fun h => hm h.1)]
      · rw [drop_cons l (a + i) hlt, lebOn_step _ _ _ _ _ h128] at hL
        have hp2 : n0 + dg (l[a + i]).toNat i < pw (i + 1) := dg_lt hn
        have e6 : Hd (wrap64 (((pw i : Nat) : Int) * 128) = ((pw (i + 1) : Nat) : Int)) := Hd.mk <| by
          have := pw_succ i
          rw [w64 (by omega) (by omega)]
          omega
        obtain ⟨K, hK⟩ := ih (i + 1) _ (by omega) (by omega) hp2 hL
        dsimp only at hK
        refine ⟨K + 2, fun k hk => ?_⟩
        obtain ⟨k, rfl⟩ : ∃ m, k = m + 2 := ⟨k - 2, by omega⟩
        show spec_ReadVar.l0 (k + 2) _ _ _ _ _ = _
        rw [spec_ReadVar.l0, if_pos (by omega), e5.out, decide_eq_true (show ((a + i : Nat) : Int) < (a : Int) + 5 by omega), spec_ReadVar.j1, if_pos rfl, if_pos (by omega), if_pos (by omega), eb, if_neg (by omega), ebw.out, e1.out, e2.out, e3.out, e4.out, e6.out]
        exact hK k (by omega)
    · rw [List.drop_eq_nil_of_le (by omega)] at hL
      rw [← hL]
      refine ⟨2, fun k hk => ?_⟩
      obtain ⟨k, rfl⟩ : ∃ m, k = m + 2 := ⟨k - 2, by omega⟩
      show spec_ReadVar.l0 (k + 2) _ _ _ _ _ = _
      rw [spec_ReadVar.l0, if_neg (by omega), spec_ReadVar.j1, if_neg (by simp)]
      rfl
theorem spec_ReadVar.ev (l : List UInt8) (hs : l.length ≤ 140737488351232) (a : Int) : Ev (fun k => spec_ReadVar.f k (mk l) a) (rvOf l a) := by
  have hsz := mk_size l
  unfold rvOf
  by_cases h : 0 ≤ a ∧ a ≤ l.length
  · obtain ⟨n, rfl⟩ := Int.eq_ofNat_of_zero_le h.1
    obtain ⟨K, hK⟩ := spec_ReadVar.ev0 l n (by omega) hs 5 0 0 (by omega) (by omega) (pw_pos 0) (lebOn_zero _)
    dsimp only at hK
    refine ⟨K, fun k hk => ?_⟩
    show spec_ReadVar.f k _ _ = _
    unfold spec_ReadVar.f
    rw [hsz, spec_l01In.is, decide_eq_true h, if_pos h]
    exact hK k hk
  · refine ⟨0, fun k hk => ?_⟩
    show spec_ReadVar.f k _ _ = _
    unfold spec_ReadVar.f
    rw [hsz, spec_l01In.is, decide_eq_false h, if_neg h]
    rfl
theorem spec_l05Var.ev (l : List UInt8) (hs : l.length ≤ 140737488351232) (a : Nat) (b : Bool) : Ev (fun k => spec_l05Var.f k (mk l) (a : Int) b) ((nmOf l a b).1, mk l, ((nmOf l a b).2.1 : Int), (nmOf l a b).2.2) := by
  obtain ⟨K, h⟩ := spec_ReadVar.ev l hs (a : Int)
  dsimp only at h
  refine ⟨K, fun k hk => ?_⟩
  show spec_l05Var.f k _ _ _ = _
  unfold spec_l05Var.f
  rw [h k hk, Option.bind_some]
  cases b with
  | true => rfl
  | false =>
    rw [if_neg (by simp)]
    by_cases hr : (rvOf l (a : Int)).2.2 = true
    · obtain ⟨n, c, at_', h1, h2, _⟩ := rvOf_facts l (a : Int) hr
      rw [if_pos hr]
      unfold nmOf
      rw [if_neg (by simp), if_pos hr, h2]
      rfl
    · rw [if_neg hr]
      unfold nmOf
      rw [if_neg (by simp), if_neg hr]


theorem spec_l07Rise.ev0 (l : List Int) (lw hg : Int) (hs : l.length ≤ 17592186043904) (d : Nat) : ∀ (i : Nat), i + d = l.length →
    Ev (fun k => spec_l07Rise.l0 k l lw hg (i : Int)) (allF (riseC l lw hg) d i) := by
  induction d with
  | zero =>
    intro i hi
    refine ev_now fun k => ?_
    show spec_l07Rise.l0 (k + 1) _ _ _ _ = _
    rw [spec_l07Rise.l0, if_neg (by omega)]
    rfl
  | succ d ih =>
    intro i hi
    have e0 : rd l (i : Int) = l.getD i 0 := rfl
    by_cases h1 : lw ≤ l.getD i 0 ∧ l.getD i 0 ≤ hg
    · by_cases h2 : i = 0
      · have hC : riseC l lw hg i = true := by simp only [riseC, decide_eq_true h1, decide_eq_true h2, Bool.true_or, Bool.and_true]
        simp only [allF, hC, Bool.true_and]
        refine Ev.step (fun k => ?_) (ih (i + 1) (by omega))
        show spec_l07Rise.l0 (k + 1) _ _ _ _ = spec_l07Rise.l0 k _ _ _ _
        rw [spec_l07Rise.l0, if_pos (by omega), if_pos (by omega), spec_l01In.is, e0, decide_eq_true h1]
        simp only [Option.bind_some, if_true]
        rw [if_neg (by omega), w64 (by omega) (by omega)]
        rfl
      · have e1 : rd l (wrap64 ((i : Int) - 1)) = l.getD (i - 1) 0 := by
          rw [w64 (by omega) (by omega), show (i : Int) - 1 = ((i - 1 : Nat) : Int) by omega, rd_nat]
        have e2 : wrap64 ((i : Int) - 1) = ((i - 1 : Nat) : Int) := by rw [w64 (by omega) (by omega)]; omega
        by_cases h3 : l.getD (i - 1) 0 < l.getD i 0
        · have hC : riseC l lw hg i = true := by simp only [riseC, decide_eq_true h1, decide_eq_true h3, Bool.or_true, Bool.and_true]
          simp only [allF, hC, Bool.true_and]
          refine Ev.step (fun k => ?_) (ih (i + 1) (by omega))
          show spec_l07Rise.l0 (k + 1) _ _ _ _ = spec_l07Rise.l0 k _ _ _ _
          rw [spec_l07Rise.l0, if_pos (by omega), if_pos (by omega), spec_l01In.is, e0, decide_eq_true h1]
          simp only [Option.bind_some, if_true]
          rw [if_pos (by omega), if_pos (by omega), if_pos (by omega), e1, if_neg (by omega), w64 (x := (i : Int) + 1) (by omega) (by omega)]
          rfl
        · have hC : riseC l lw hg i = false := by simp only [riseC, decide_eq_true h1, decide_eq_false h3, decide_eq_false h2, Bool.or_false, Bool.and_false]
          simp only [allF, hC, Bool.false_and]
          refine ev_now fun k => ?_
          show spec_l07Rise.l0 (k + 1) _ _ _ _ = _
          rw [spec_l07Rise.l0, if_pos (by omega), if_pos (by omega), spec_l01In.is, e0, decide_eq_true h1]
          simp only [Option.bind_some, if_true]
          rw [if_pos (by omega), if_pos (by omega), if_pos (by omega), e1, if_pos (by omega)]
    · have hC : riseC l lw hg i = false := by simp only [riseC, decide_eq_false h1, Bool.false_and]
      simp only [allF, hC, Bool.false_and]
      refine ev_now fun k => ?_
      show spec_l07Rise.l0 (k + 1) _ _ _ _ = _
      rw [spec_l07Rise.l0, if_pos (by omega), if_pos (by omega), spec_l01In.is, e0, decide_eq_false h1]
      simp
theorem spec_ConfOk.ev (l : List Int) (hs : l.length ≤ 17592186043904) : Ev (fun k => spec_ConfOk.f k l) (confOf l) := by
  obtain ⟨K, h⟩ := spec_l07Rise.ev0 l 1 4 hs l.length 0 (by omega)
  dsimp only at h
  refine ⟨K, fun k hk => ?_⟩
  show spec_ConfOk.f k _ = _
  unfold spec_ConfOk.f spec_l07Rise.f confOf
  rw [spec_l01In.is]
  by_cases hc : 1 ≤ (l.length : Int) ∧ (l.length : Int) ≤ 4
  · rw [decide_eq_true hc]
    simp only [Option.bind_some, if_true]
    have := h k hk
    rw [show ((0 : Nat) : Int) = 0 from rfl] at this
    rw [this]
    simp
  · rw [decide_eq_false hc]
    simp
theorem rise_man (l : List Int) (next : Int) (h0 : 0 ≤ next) (h1 : next ≤ 1000) : allF (riseC l 0 (next - 1)) l.length 0 = allF (manC l next) l.length 0 := by
  refine allF_congr l.length 0 fun j _ _ => ?_
  unfold riseC manC
  generalize l.getD j 0 = x
  generalize l.getD (j - 1) 0 = y
  by_cases h2 : 0 ≤ x ∧ x ≤ next - 1
  · rw [decide_eq_true h2, decide_eq_true (show 0 ≤ x ∧ x ≤ 999 by omega), decide_eq_true (show ¬ x ≥ next by omega), Bool.true_and, Bool.true_and, Bool.true_and]
    congr 1
    rw [decide_eq_decide]
    omega
  · rw [decide_eq_false h2, Bool.false_and]
    by_cases h3 : 0 ≤ x ∧ x ≤ 999
    · rw [decide_eq_false (show ¬ ¬ x ≥ next by omega), Bool.and_false, Bool.false_and]
    · rw [decide_eq_false h3, Bool.false_and, Bool.false_and]
theorem man_neg (l : List Int) (next : Int) (h0 : ¬ 0 ≤ next) (hl : 1 ≤ l.length) : allF (manC l next) l.length 0 = false := by
  obtain ⟨d, hd⟩ : ∃ d, l.length = d + 1 := ⟨l.length - 1, by omega⟩
  rw [hd, allF]
  have : manC l next 0 = false := by
    unfold manC
    by_cases h3 : 0 ≤ l.getD 0 0 ∧ l.getD 0 0 ≤ 999
    · rw [decide_eq_false (show ¬ ¬ l.getD 0 0 ≥ next by omega), Bool.and_false, Bool.false_and]
    · rw [decide_eq_false h3, Bool.false_and, Bool.false_and]
  rw [this, Bool.false_and]
theorem spec_ManifestOk.ev (l : List Int) (next base bt : Int) (c : List Int) (hs : l.length ≤ 1048576) (hc : c.length ≤ 1048576) : Ev (fun k => spec_ManifestOk.f k l next base bt c) (manOf l next base bt c) := by
  obtain ⟨K1, h1⟩ := spec_l07Rise.ev0 l 0 (next - 1) (by omega) l.length 0 (by omega)
  obtain ⟨K2, h2⟩ := spec_ConfOk.ev c (by omega)
  dsimp only at h1 h2
  refine ⟨K1 + K2, fun k hk => ?_⟩
  show spec_ManifestOk.f k _ _ _ _ _ = _
  unfold spec_ManifestOk.f spec_l07Rise.f manOf
  by_cases g1 : 1 ≤ (l.length : Int) ∧ (l.length : Int) ≤ 8
  · by_cases g2 : 0 ≤ next ∧ next ≤ 1000
    · have := h1 k (by omega)
      rw [show ((0 : Nat) : Int) = 0 from rfl, rise_man l next g2.1 g2.2] at this
      rw [w64 (x := next - 1) (by omega) (by omega), this, h2 k (by omega)]
      simp only [spec_l01In.is, Option.bind_some]
      generalize allF (manC l next) l.length 0 = b
      have g2' : next ≤ 1000 := g2.2
      by_cases h3 : 0 ≤ base ∧ base ≤ 100000 <;> by_cases h4 : 0 ≤ bt ∧ bt ≤ 100000 <;> cases b <;> simp [g1, g2, g2', h3, h4]
    · rw [spec_l01In.is, spec_l01In.is, decide_eq_true g1, decide_eq_false g2]
      simp only [Option.bind_some, if_true]
      rw [if_neg (by simp)]
      by_cases g3 : next ≤ 1000
      · rw [man_neg l next (by omega) (by omega), Bool.false_and]
      · rw [decide_eq_false g3]
        simp
  · rw [spec_l01In.is, decide_eq_false g1]
    simp
theorem spec_SumMore.ev1 (l : List UInt8) (i : Nat) (hi : i < l.length) (hs : l.length ≤ 140737488351232) (r : Int) (d : Nat) :
    ∀ (x j : Nat), x < 4294967296 → j + d = 8 → Ev (fun k => spec_SumMore.l0 k ((crcBits d x : Nat) : Int) (mk l) ((i + 1 : Nat) : Int)) r → Ev (fun k => spec_SumMore.l1 k (x : Int) (mk l) (i : Int) (j : Int)) r := by
  induction d with
  | zero =>
    intro x j hx hj h
    refine Ev.step (fun k => ?_) h
    show spec_SumMore.l1 (k + 1) _ _ _ _ = _
    rw [spec_SumMore.l1]
    rw [if_neg (by omega), w64 (by omega) (by omega)]
    rfl
  | succ d ih =>
    intro x j hx hj h
    refine Ev.step (fun k => ?_) (ih (crcBit x) (j + 1) (crcBit_lt hx) (by omega) h)
    show spec_SumMore.l1 (k + 1) _ _ _ _ = _
    rw [spec_SumMore.l1]
    have e1 : Int.tmod (x : Int) 2 = ((x % 2 : Nat) : Int) := tmod_nat x 2
    have e2 : Int.tdiv (x : Int) 2 = ((x / 2 : Nat) : Int) := tdiv_nat x 2
    rw [if_pos (by omega), w64 (x := (j : Int) + 1) (by omega) (by omega), e1, e2, show ((x / 2 : Nat) : Int) % 4294967296 = ((x / 2 : Nat) : Int) by omega]
    unfold crcBit
    by_cases hb : x % 2 = 1
    · rw [if_pos (by omega), if_pos hb, show (3558460437 : Int) = ((3558460437 : Nat) : Int) from rfl, u32_xor_nat _ _ (by omega) (by omega)]
      rfl
    · rw [if_neg (by omega), if_neg hb]
      rfl
theorem spec_SumMore.ev0 (l : List UInt8) (hs : l.length ≤ 140737488351232) (d : Nat) :
    ∀ (i x : Nat), x < 4294967296 → i + d = l.length → Ev (fun k => spec_SumMore.l0 k (x : Int) (mk l) (i : Int)) ((crcL x (l.drop i) : Nat) : Int) := by
  have hsz := mk_size l
  induction d with
  | zero =>
    intro i x hx hi
    refine ⟨1, fun k hk => ?_⟩
    obtain ⟨k, rfl⟩ : ∃ m, k = m + 1 := ⟨k - 1, by omega⟩
    show spec_SumMore.l0 (k + 1) _ _ _ = _
    rw [spec_SumMore.l0]
    rw [if_neg (by omega), List.drop_eq_nil_of_le (by omega)]
    rfl
  | succ d ih =>
    intro i x hx hi
    have hlt : i < l.length := by omega
    have hb : (l[i]).toNat < 256 := (l[i]).toNat_lt
    have hx2 : x ^^^ (l[i]).toNat < 4294967296 := xor_lt32 hx (by omega)
    rw [drop_cons l i hlt, crcL_cons]
    refine Ev.step (fun k => ?_) (spec_SumMore.ev1 l i hlt hs _ 8 (x ^^^ (l[i]).toNat) 0 hx2 (by omega) (ih (i + 1) _ (crcBits_lt 8 hx2) (by omega)))
    show spec_SumMore.l0 (k + 1) _ _ _ = _
    rw [spec_SumMore.l0]
    rw [if_pos (by omega), if_pos (by omega), bt_mk l i hlt, show (((l[i]).toNat : Nat) : Int) % 4294967296 = ((l[i]).toNat : Int) by omega, u32_xor_nat _ _ hx (by omega)]
    rfl
theorem spec_SumMore.ev (l : List UInt8) (hs : l.length ≤ 140737488351232) (x : Nat) (hx : x < 4294967296) : Ev (fun k => spec_SumMore.f k (x : Int) (mk l)) ((crcL x l : Nat) : Int) :=
  spec_SumMore.ev0 l hs l.length 0 x hx (by omega)
theorem spec_SumOf.ev (l : List UInt8) (hs : l.length ≤ 140737488351232) : Ev (fun k => spec_SumOf.f k (mk l)) ((crc l : Nat) : Int) := by
  obtain ⟨K, h⟩ := spec_SumMore.ev l hs 4294967295 (by omega)
  dsimp only at h
  refine ⟨K, fun k hk => ?_⟩
  show spec_SumOf.f k _ = _
  unfold spec_SumOf.f
  rw [show (4294967295 : Int) = ((4294967295 : Nat) : Int) from rfl, h k hk]
  rfl
theorem spec_l02Four.is (n : Nat) : spec_l02Four.f (n : Int) = some (mk (four n)) := by
  unfold spec_l02Four.f
  rw [four_nm, strOf_nm]
theorem spec_Sealed.ev (l : List UInt8) (hs : l.length ≤ 140737488351232) : Ev (fun k => spec_Sealed.f k (mk l)) (sealOf l) := by
  have hsz := mk_size l
  unfold sealOf
  obtain ⟨K, h⟩ := spec_SumOf.ev l hs
  dsimp only at h
  refine ⟨K, fun k hk => ?_⟩
  show spec_Sealed.f k _ = _
  unfold spec_Sealed.f
  by_cases hc : l.length ≤ 20000
  · rw [if_neg (by omega), if_pos hc, h k hk, Option.bind_some, spec_l02Four.is, Option.bind_some, if_pos (by rw [mk_size, mk_size, four_len]; omega), mk_append]
  · rw [if_pos (by omega), if_neg hc]
    rfl
theorem spec_ManifestText.ev1 (l : List Int) (next base bt : Int) (c : List Int) (hc : c.length ≤ 4) (hx : ∀ x ∈ c, 1 ≤ x ∧ x ≤ 4) (d : Nat) : ∀ (i : Nat) (acc : List UInt8), i + d = c.length → acc.length ≤ 200 + 5 * i →
    Ev (fun k => spec_ManifestText.l1 k (mk acc) (i : Int) l next base bt c) (sealOf (acc ++ vts (c.drop i))) := by
  induction d with
  | zero =>
    intro i acc hi ha
    obtain ⟨K, h⟩ := spec_Sealed.ev acc (by omega)
    dsimp only at h
    refine ⟨K + 1, fun k hk => ?_⟩
    obtain ⟨k, rfl⟩ : ∃ m, k = m + 1 := ⟨k - 1, by omega⟩
    show spec_ManifestText.l1 (k + 1) _ _ _ _ _ _ _ = _
    rw [spec_ManifestText.l1, if_neg (by omega), h k (by omega), List.drop_eq_nil_of_le (by omega), vts, List.append_nil]
    rfl
  | succ d ih =>
    intro i acc hi ha
    have hlt : i < c.length := by omega
    have hm := hx c[i] (List.getElem_mem hlt)
    have e0 : rd c (i : Int) = c[i] := by rw [rd_nat]; simp [List.getD_eq_getElem?_getD, List.getElem?_eq_getElem hlt]
    obtain ⟨n, hn⟩ := Int.eq_ofNat_of_zero_le (show 0 ≤ c[i] by omega)
    have g := vt_len5 (n := n) (by omega)
    obtain ⟨K1, h1⟩ := spec_l01Var.ev0 n [] (by omega) (by simp; omega)
    obtain ⟨K2, h2⟩ := ih (i + 1) (acc ++ vt n) (by omega) (by rw [List.length_append]; omega)
    dsimp only at h1 h2
    refine ⟨K1 + K2 + 1, fun k hk => ?_⟩
    obtain ⟨k, rfl⟩ : ∃ m, k = m + 1 := ⟨k - 1, by omega⟩
    show spec_ManifestText.l1 (k + 1) _ _ _ _ _ _ _ = _
    unfold spec_ManifestText.l1 spec_l01Var.f
    rw [if_pos (by omega), if_pos (by omega), e0, hn, nm_nil, h1 k (by omega), Option.bind_some, if_pos (by rw [mk_size, mk_size]; simp only [List.nil_append]; omega), mk_append, List.nil_append, w64 (by omega) (by omega)]
    have := h2 k (by omega)
    rw [List.drop_eq_getElem_cons hlt, vts, hn, Int.toNat_natCast, ← List.append_assoc]
    exact this
theorem spec_ManifestText.ev0 (l : List Int) (next base bt : Nat) (c : List Int) (hl : l.length ≤ 8) (hx : ∀ x ∈ l, 0 ≤ x ∧ x ≤ 999) (hn : next ≤ 1000) (hb : base ≤ 100000) (ht : bt ≤ 100000) (hc : c.length ≤ 4) (hy : ∀ x ∈ c, 1 ≤ x ∧ x ≤ 4) (d : Nat) : ∀ (i : Nat) (acc : List UInt8), i + d = l.length → acc.length ≤ 10 + 5 * i →
    Ev (fun k => spec_ManifestText.l0 k (mk acc) (i : Int) l next base bt c) (sealOf (acc ++ vts (l.drop i) ++ vt next ++ vt base ++ vt bt ++ vt c.length ++ vts c)) := by
  induction d with
  | zero =>
    intro i acc hi ha
    have g1 := vt_len5 (n := next) (by omega)
    have g2 := vt_len5 (n := base) (by omega)
    have g3 := vt_len5 (n := bt) (by omega)
    have g4 := vt_len5 (n := c.length) (by omega)
    obtain ⟨K1, h1⟩ := spec_l01Var.ev0 next [] (by omega) (by simp; omega)
    obtain ⟨K2, h2⟩ := spec_l01Var.ev0 base [] (by omega) (by simp; omega)
    obtain ⟨K3, h3⟩ := spec_l01Var.ev0 bt [] (by omega) (by simp; omega)
    obtain ⟨K4, h4⟩ := spec_l01Var.ev0 c.length [] (by omega) (by simp; omega)
    obtain ⟨K5, h5⟩ := spec_ManifestText.ev1 l next base bt c hc hy c.length 0 (acc ++ vt next ++ vt base ++ vt bt ++ vt c.length) (by omega) (by simp only [List.length_append]; omega)
    dsimp only at h1 h2 h3 h4 h5
    refine ⟨K1 + K2 + K3 + K4 + K5 + 1, fun k hk => ?_⟩
    obtain ⟨k, rfl⟩ : ∃ m, k = m + 1 := ⟨k - 1, by omega⟩
    show spec_ManifestText.l0 (k + 1) _ _ _ _ _ _ _ = _
    have ez : ∀ p q : List UInt8, p.length ≤ 20000 → q.length ≤ 20000 → (mk p).size + (mk q).size ≤ 9223372036854775807 := fun p q hp hq => by rw [mk_size, mk_size]; omega
    have h5' := h5 k (by omega)
    unfold spec_ManifestText.l0 spec_l01Var.f
    rw [if_neg (by omega), nm_nil, h1 k (by omega), h2 k (by omega), h3 k (by omega), h4 k (by omega)]
    simp only [Option.bind_some, List.nil_append, mk_append]
    rw [if_pos (ez _ _ (by omega) (by omega)), if_pos (ez _ _ (by simp only [List.length_append]; omega) (by omega)), if_pos (ez _ _ (by simp only [List.length_append]; omega) (by omega)), if_pos (ez _ _ (by simp only [List.length_append]; omega) (by omega)), List.drop_eq_nil_of_le (by omega), vts, List.append_nil]
    exact h5'
  | succ d ih =>
    intro i acc hi ha
    have hlt : i < l.length := by omega
    have hm := hx l[i] (List.getElem_mem hlt)
    have e0 : rd l (i : Int) = l[i] := by rw [rd_nat]; simp [List.getD_eq_getElem?_getD, List.getElem?_eq_getElem hlt]
    obtain ⟨n, hn⟩ := Int.eq_ofNat_of_zero_le (show 0 ≤ l[i] by omega)
    have g := vt_len5 (n := n) (by omega)
    obtain ⟨K1, h1⟩ := spec_l01Var.ev0 n [] (by omega) (by simp; omega)
    obtain ⟨K2, h2⟩ := ih (i + 1) (acc ++ vt n) (by omega) (by rw [List.length_append]; omega)
    dsimp only at h1 h2
    refine ⟨K1 + K2 + 1, fun k hk => ?_⟩
    obtain ⟨k, rfl⟩ : ∃ m, k = m + 1 := ⟨k - 1, by omega⟩
    show spec_ManifestText.l0 (k + 1) _ _ _ _ _ _ _ = _
    unfold spec_ManifestText.l0 spec_l01Var.f
    rw [if_pos (by omega), if_pos (by omega), e0, hn, nm_nil, h1 k (by omega), Option.bind_some, if_pos (by rw [mk_size, mk_size]; simp only [List.nil_append]; omega), mk_append, List.nil_append, w64 (by omega) (by omega)]
    have := h2 k (by omega)
    rw [List.drop_eq_getElem_cons hlt, vts, hn, Int.toNat_natCast, ← List.append_assoc acc]
    exact this
theorem spec_ManifestText.ev (l : List Int) (next base bt : Int) (c : List Int) (hs : l.length ≤ 1048576) (hc : c.length ≤ 1048576) : Ev (fun k => spec_ManifestText.f k l next base bt c) (manTextOf l next base bt c) := by
  obtain ⟨K0, h0⟩ := spec_ManifestOk.ev l next base bt c hs hc
  dsimp only at h0
  unfold manTextOf
  by_cases hb : manOf l next base bt c = true
  · obtain ⟨a1, a2, a3, a4, a5, a6, a7, a8, a9, b1, b2, b3⟩ := manOf_small hb
    obtain ⟨next, rfl⟩ := Int.eq_ofNat_of_zero_le a4
    obtain ⟨base, rfl⟩ := Int.eq_ofNat_of_zero_le a6
    obtain ⟨bt, rfl⟩ := Int.eq_ofNat_of_zero_le a8
    have g := vt_len5 (n := l.length) (by omega)
    obtain ⟨K1, h1⟩ := spec_l01Var.ev0 l.length [] (by omega) (by simp; omega)
    obtain ⟨K2, h2⟩ := spec_ManifestText.ev0 l next base bt c a2 a3 (by omega) (by omega) (by omega) b2 b3 l.length 0 (vt l.length) (by omega) (by omega)
    dsimp only at h1 h2
    refine ⟨K0 + K1 + K2, fun k hk => ?_⟩
    show spec_ManifestText.f k _ _ _ _ _ = _
    unfold spec_ManifestText.f spec_l01Var.f
    rw [h0 k (by omega), Option.bind_some, if_pos hb, nm_nil, h1 k (by omega), Option.bind_some, List.nil_append, if_pos hb]
    exact h2 k (by omega)
  · refine ⟨K0, fun k hk => ?_⟩
    show spec_ManifestText.f k _ _ _ _ _ = _
    unfold spec_ManifestText.f
    rw [h0 k (by omega), Option.bind_some, if_neg hb, if_neg hb]
    rfl

theorem spec_Unsealed.ev (l : List UInt8) (hs : l.length ≤ 140737488351232) : Ev (fun k => spec_Unsealed.f k (mk l)) (unsealOf l) := by
  have hsz := mk_size l
  unfold unsealOf
  obtain ⟨K, h⟩ := spec_SumOf.ev (l.take (l.length - 4)) (by simp; omega)
  dsimp only at h
  refine ⟨K, fun k hk => ?_⟩
  show spec_Unsealed.f k _ = _
  unfold spec_Unsealed.f
  by_cases h4 : 4 ≤ l.length
  · rw [unseal_w l h4 hs, if_neg (by omega)]
    by_cases hm : l.length ≤ 20004
    · rw [if_neg (by omega), if_pos (by omega), if_pos (by omega), unseal_cut, h k hk, Option.bind_some, spec_l02Four.is, Option.bind_some, unseal_end l _ (by omega), mk_toList, mk_toList]
      by_cases hd : l.drop (l.length - 4) = four (crc (l.take (l.length - 4)))
      · rw [if_pos hd, if_pos ⟨h4, hm, hd⟩]
      · rw [if_neg hd, if_neg (fun h' => hd h'.2.2)]
        rfl
    · rw [if_pos (by omega), if_neg (fun h' => hm h'.2.1)]
      rfl
  · rw [if_pos (by rw [hsz, w64 (by omega) (by omega)]; omega), if_neg (fun h' => h4 h'.1)]
    rfl
theorem spec_ReadManifest.ev1 (t l : List UInt8) (hs : l.length ≤ 140737488351232) (n : Nat) (hn : n ≤ 1000000000) (segs : List Int) (hg : segs.length ≤ 1000) (n1 n2 n3 : Int) (d : Nat) : ∀ (i a : Nat) (b : Bool) (xs : List Int), i + d = min n 5 → xs.length = i →
    Ev (fun k => spec_ReadManifest.l1 k (mk t) (n : Int) (i : Int) (mk l) (a : Int) b segs n1 n2 n3 xs) (specFin t ⟨segs, n1, n2, n3, xs ++ (rdn l d a b).1, (rdn l d a b).2.1, (rdn l d a b).2.2, 0, 0⟩) := by
  have hz : Ev (fun k => some manNo) manNo := ⟨0, fun k _ => rfl⟩
  have fin : ∀ xs : List Int, xs.length ≤ 1000 → ∀ b a, Ev (fun k => (spec_ManifestText.f k segs n1 n2 n3 xs).bind fun r => if b = true then some manNo else if r.2 = true then (if r.1.toList = (mk t).toList then some (segs, n1, n2, n3, xs, true) else some manNo) else some manNo) (specFin t ⟨segs, n1, n2, n3, xs, a, b, 0, 0⟩) := by
    intro xs hx b a
    obtain ⟨K, h⟩ := spec_ManifestText.ev segs n1 n2 n3 xs (by omega) (by omega)
    dsimp only at h
    refine ⟨K, fun k hk => ?_⟩
    show (spec_ManifestText.f k _ _ _ _ _).bind _ = _
    rw [h k hk, Option.bind_some]
    unfold specFin
    cases b with
    | true => simp only [if_true]
    | false =>
      simp only [Bool.false_eq_true, if_false]
      by_cases h2 : (manTextOf segs n1 n2 n3 xs).2 = true
      · rw [if_pos h2]
        obtain ⟨y, hy⟩ := mk_of (manTextOf segs n1 n2 n3 xs).1
        by_cases h3 : (manTextOf segs n1 n2 n3 xs).1.toList = (mk t).toList
        · rw [if_pos h3, if_pos ⟨h2, by rw [hy] at h3 ⊢; rw [mk_toList, mk_toList] at h3; rw [h3]⟩]
        · rw [if_neg h3, if_neg (fun h => h3 (by rw [h.2]))]
      · rw [if_neg h2, if_neg (fun h => h2 h.1)]
  induction d with
  | zero =>
    intro i a b xs hi hx
    simp only [rdn, List.append_nil]
    obtain ⟨K, h⟩ := fin xs (by omega) b a
    dsimp only at h
    refine ⟨K + 1, fun k hk => ?_⟩
    obtain ⟨k, rfl⟩ : ∃ m, k = m + 1 := ⟨k - 1, by omega⟩
    show spec_ReadManifest.l1 (k + 1) _ _ _ _ _ _ _ _ _ _ _ = _
    have h' := h k (by omega)
    rw [spec_ReadManifest.l1]
    by_cases hc : (i : Int) < n
    · rw [if_pos hc]
      cases b with
      | true =>
        rw [if_pos rfl]
        simp only [if_true] at h'
        exact h'
      | false =>
        rw [if_neg (by simp), if_neg (by omega)]
        simp only [Bool.false_eq_true, if_false] at h'
        exact h'
    · rw [if_neg hc]
      exact h'
  | succ d ih =>
    intro i a b xs hi hx
    cases b with
    | true =>
      rw [rdn_bad, List.append_nil]
      obtain ⟨K, h⟩ := fin xs (by omega) true a
      dsimp only at h
      refine ⟨K + 1, fun k hk => ?_⟩
      obtain ⟨k, rfl⟩ : ∃ m, k = m + 1 := ⟨k - 1, by omega⟩
      show spec_ReadManifest.l1 (k + 1) _ _ _ _ _ _ _ _ _ _ _ = _
      have h' := h k (by omega)
      rw [spec_ReadManifest.l1, if_pos (by omega), if_pos rfl]
      simp only [if_true] at h'
      exact h'
    | false =>
      obtain ⟨K1, h1⟩ := spec_l05Var.ev l hs a false
      obtain ⟨K2, h2⟩ := ih (i + 1) (nmOf l a false).2.1 (nmOf l a false).2.2 (xs ++ [(nmOf l a false).1]) (by omega) (by simp; omega)
      dsimp only at h1 h2
      have ew : Hd (wrap64 ((i : Int) + 1) = ((i + 1 : Nat) : Int)) := Hd.mk <| by rw [w64 (by omega) (by omega)]; rfl
      refine ⟨K1 + K2 + 1, fun k hk => ?_⟩
      obtain ⟨k, rfl⟩ : ∃ m, k = m + 1 := ⟨k - 1, by omega⟩
      show spec_ReadManifest.l1 (k + 1) _ _ _ _ _ _ _ _ _ _ _ = _
      rw [spec_ReadManifest.l1, if_pos (by omega), if_neg (by simp), if_pos (by omega), h1 k (by omega), Option.bind_some, if_pos (by omega), ew.out]
      dsimp only
      rw [h2 k (by omega), rdn, if_neg (by simp), List.append_assoc]
      rfl
theorem spec_ReadManifest.ev0 (t l : List UInt8) (hs : l.length ≤ 140737488351232) (n : Nat) (hn : n ≤ 1000000000) (R : ManRes) (d : Nat) : ∀ (i a : Nat) (b : Bool) (xs : List Int), i + d = min n 9 → xs.length = i →
    Ev (fun k => spec_ReadManifest.j1 k (mk t) (mk l) ((rdn l d a b).2.1 : Int) (rdn l d a b).2.2 (xs ++ (rdn l d a b).1) 0 0 0) R → Ev (fun k => spec_ReadManifest.l0 k (mk t) (n : Int) (i : Int) (mk l) (a : Int) b xs 0 0 0) R := by
  induction d with
  | zero =>
    intro i a b xs hi hx h
    simp only [rdn, List.append_nil] at h
    refine Ev.step (fun k => ?_) h
    show spec_ReadManifest.l0 (k + 1) _ _ _ _ _ _ _ _ _ _ = spec_ReadManifest.j1 k _ _ _ _ _ _ _ _
    rw [spec_ReadManifest.l0]
    by_cases hc : (i : Int) < n
    · rw [if_pos hc]
      cases b with
      | true => rw [if_pos rfl]
      | false => rw [if_neg (by simp), if_neg (by omega)]
    · rw [if_neg hc]
  | succ d ih =>
    intro i a b xs hi hx h
    cases b with
    | true =>
      rw [rdn_bad, List.append_nil] at h
      refine Ev.step (fun k => ?_) h
      show spec_ReadManifest.l0 (k + 1) _ _ _ _ _ _ _ _ _ _ = spec_ReadManifest.j1 k _ _ _ _ _ _ _ _
      rw [spec_ReadManifest.l0, if_pos (by omega), if_pos rfl]
    | false =>
      rw [rdn, if_neg (by simp)] at h
      obtain ⟨K1, h1⟩ := spec_l05Var.ev l hs a false
      obtain ⟨K2, h2⟩ := ih (i + 1) (nmOf l a false).2.1 (nmOf l a false).2.2 (xs ++ [(nmOf l a false).1]) (by omega) (by simp; omega) (by rw [List.append_assoc]; exact h)
      dsimp only at h1 h2
      have ew : Hd (wrap64 ((i : Int) + 1) = ((i + 1 : Nat) : Int)) := Hd.mk <| by rw [w64 (by omega) (by omega)]; rfl
      refine ⟨K1 + K2 + 1, fun k hk => ?_⟩
      obtain ⟨k, rfl⟩ : ∃ m, k = m + 1 := ⟨k - 1, by omega⟩
      show spec_ReadManifest.l0 (k + 1) _ _ _ _ _ _ _ _ _ _ = _
      rw [spec_ReadManifest.l0, if_pos (by omega), if_neg (by simp), if_pos (by omega), h1 k (by omega), Option.bind_some, if_pos (by omega), ew.out]
      exact h2 k (by omega)
theorem specFin_c (t : List UInt8) (m : Mr) (x y : Nat) : specFin t ⟨m.segs, m.n1, m.n2, m.n3, m.conf, m.a, m.b, x, y⟩ = specFin t m := rfl
theorem spec_ReadManifest.evj (t l : List UInt8) (hs : l.length ≤ 140737488351232) (q0 : List Int × Nat × Bool) (lq0 : q0.2.1 ≤ l.length) (hq0 : q0.1.length ≤ 9) (c0 : Nat) :
    Ev (fun k => spec_ReadManifest.j1 k (mk t) (mk l) (q0.2.1 : Int) q0.2.2 q0.1 0 0 0) (specFin t (rdTail l q0 (fun n => min n 5) c0)) := by
  unfold rdTail
  dsimp only
  obtain ⟨_, _, _, l1⟩ := nmOf_rng l q0.2.1 q0.2.2 lq0
  obtain ⟨K2, h2⟩ := spec_l05Var.ev l hs q0.2.1 q0.2.2
  generalize nmOf l q0.2.1 q0.2.2 = r1 at *
  obtain ⟨_, _, _, l2⟩ := nmOf_rng l r1.2.1 r1.2.2 l1
  obtain ⟨K3, h3⟩ := spec_l05Var.ev l hs r1.2.1 r1.2.2
  generalize nmOf l r1.2.1 r1.2.2 = r2 at *
  obtain ⟨_, _, _, l3⟩ := nmOf_rng l r2.2.1 r2.2.2 l2
  obtain ⟨K4, h4⟩ := spec_l05Var.ev l hs r2.2.1 r2.2.2
  generalize nmOf l r2.2.1 r2.2.2 = r3 at *
  obtain ⟨m4, e4, f4, l4⟩ := nmOf_rng l r3.2.1 r3.2.2 l3
  obtain ⟨K5, h5⟩ := spec_l05Var.ev l hs r3.2.1 r3.2.2
  generalize nmOf l r3.2.1 r3.2.2 = r4 at *
  obtain ⟨K6, h6⟩ := spec_ReadManifest.ev1 t l hs m4 f4 q0.1 (by omega) r1.1 r2.1 r3.1 (min m4 5) 0 r4.2.1 r4.2.2 [] (by omega) rfl
  dsimp only at h2 h3 h4 h5 h6
  refine ⟨K2 + K3 + K4 + K5 + K6 + 1, fun k hk => ?_⟩
  obtain ⟨k, rfl⟩ : ∃ m, k = m + 1 := ⟨k - 1, by omega⟩
  show spec_ReadManifest.j1 (k + 1) _ _ _ _ _ _ _ _ = _
  rw [spec_ReadManifest.j1, h2 k (by omega), Option.bind_some]
  dsimp only
  rw [h3 k (by omega), Option.bind_some]
  dsimp only
  rw [h4 k (by omega), Option.bind_some]
  dsimp only
  rw [h5 k (by omega), Option.bind_some]
  dsimp only
  rw [e4, Int.toNat_natCast]
  have h7 := h6 k (by omega)
  rw [List.nil_append] at h7
  exact h7
theorem spec_ReadManifest.ev (t : List UInt8) (ht : t.length ≤ 140737488351232) : Ev (fun k => spec_ReadManifest.f k (mk t)) (specMan t) := by
  have hl := unsL_len t
  obtain ⟨K0, h0⟩ := spec_Unsealed.ev t ht
  dsimp only at h0
  rw [unsealOf_L] at h0
  unfold specMan
  generalize (unsL t).1 = l at *
  generalize (unsL t).2 = ok at *
  have hs : l.length ≤ 140737488351232 := by omega
  obtain ⟨K1, h1⟩ := spec_l05Var.ev l hs 0 (!ok)
  obtain ⟨m0, e0, f0, l0⟩ := nmOf_rng l 0 (!ok) (Nat.zero_le _)
  unfold rdMan
  dsimp only
  generalize nmOf l 0 (!ok) = r0 at *
  rw [e0, Int.toNat_natCast]
  have hj := spec_ReadManifest.evj t l hs (rdn l (min m0 9) r0.2.1 r0.2.2) (rdn_rng l (min m0 9) r0.2.1 r0.2.2 l0) (Nat.le_trans (rdn_len l (min m0 9) r0.2.1 r0.2.2) (by omega)) m0
  obtain ⟨K2, h2⟩ := spec_ReadManifest.ev0 t l hs m0 f0 _ (min m0 9) 0 r0.2.1 r0.2.2 [] (by omega) rfl (by rw [List.nil_append]; exact hj)
  dsimp only at h1 h2
  refine ⟨K0 + K1 + K2, fun k hk => ?_⟩
  show spec_ReadManifest.f k _ = _
  unfold spec_ReadManifest.f
  rw [h0 k (by omega), Option.bind_some]
  dsimp only
  have h1' := h1 k (by omega)
  rw [show ((0 : Nat) : Int) = 0 from rfl] at h1'
  rw [h1', Option.bind_some]
  dsimp only
  rw [e0]
  exact h2 k (by omega)

theorem shl_digit (m i : Nat) (h : i ≤ 4) : shl .i64 ((m % 128 : Nat) : Int) (wrap64 (7 * (i : Int))) = ((dg m i : Nat) : Int) := by
  have e : ∀ j : Nat, j ≤ 28 → shl .i64 ((m % 128 : Nat) : Int) (j : Int) = ((m % 128 : Nat) : Int) * 2 ^ j := by
    intro j hj
    unfold shl
    rw [Int.toNat_natCast, Nat.min_eq_left (show j ≤ IntKind.i64.bits by simp [IntKind.bits]; omega), IntKind.wrap_i64]
    have h2 : 2 ^ j ≤ 2 ^ 28 := Nat.pow_le_pow_right (by omega) hj
    have h4 : m % 128 * 2 ^ j ≤ 127 * 268435456 := Nat.mul_le_mul (by omega) h2
    have h5 : ((m % 128 : Nat) : Int) * 2 ^ j = ((m % 128 * 2 ^ j : Nat) : Int) := by rw [Int.natCast_mul, Int.natCast_pow]; rfl
    rw [h5]
    omega
  rw [w64 (by omega) (by omega), show (7 : Int) * (i : Int) = ((7 * i : Nat) : Int) by omega, e (7 * i) (by omega)]
  unfold dg pw
  rw [Int.natCast_mul, Int.natCast_pow, show (128 : Nat) = 2 ^ 7 from rfl, Int.natCast_pow, ← Int.pow_mul]
  rfl
theorem impl_within.is (a lo hi : Int) : impl_within.f a lo hi = some (decide (lo ≤ a ∧ a ≤ hi)) := by
  unfold impl_within.f
  by_cases h : a ≥ lo
  · rw [if_pos h]
    congr 1
    simp only [decide_eq_decide]
    exact ⟨fun h' => ⟨h, h'⟩, fun h' => h'.2⟩
  · rw [if_neg h, decide_eq_false (fun h' => h h'.1)]
theorem impl_VarText.ev0 (n : Nat) : ∀ (acc : List UInt8), n ≤ 9223372036854775807 → acc.length + (vt n).length ≤ 100 → Ev (fun k => impl_VarText.l0 k (n : Int) (nm acc)) (mk (acc ++ vt n), true) := by
  induction n using Nat.strongRecOn with
  | ind n ih =>
    intro acc hn hl
    have hal := nm_length acc
    by_cases h : 127 < n
    · have e1 : Int.tmod (n : Int) 128 = ((n % 128 : Nat) : Int) := tmod_nat n 128
      have e2 : Int.tdiv (n : Int) 128 = ((n / 128 : Nat) : Int) := tdiv_nat n 128
      rw [vt_big h] at hl ⊢
      have e3 : [(wrap64 ((Int.tmod (n : Int) 128) + 128)) % 256] = nm [UInt8.ofNat (n % 128 + 128)] := by
        rw [nm_u8 _ (by omega), e1, w64 (by omega) (by omega)]
        congr 1
        omega
      have := ih (n / 128) (by omega) (acc ++ [UInt8.ofNat (n % 128 + 128)]) (by omega) (by simp at hl ⊢; omega)
      rw [List.append_assoc, List.singleton_append] at this
      refine Ev.step (fun k => ?_) this
      show impl_VarText.l0 (k + 1) _ _ = _
      rw [impl_VarText.l0, if_pos (by omega), if_pos (by simp at hl; omega), e3, e2, w64 (by omega) (by omega), nm_append]
    · refine ⟨1, fun k hk => ?_⟩
      obtain ⟨k, rfl⟩ : ∃ m, k = m + 1 := ⟨k - 1, by omega⟩
      show impl_VarText.l0 (k + 1) _ _ = _
      have e3 : [(n : Int) % 256] = nm [UInt8.ofNat n] := by
        rw [nm_u8 _ (by omega)]
        congr 1
        omega
      rw [vt_small (by omega)] at hl ⊢
      rw [impl_VarText.l0, if_neg (by omega), if_pos (by simp at hl; omega), e3, ← nm_append, strOf_nm]
theorem impl_VarText.ev (n : Int) : Ev (fun k => impl_VarText.f k n) (varOf n) := by
  unfold varOf
  by_cases h : 0 ≤ n ∧ n ≤ 1000000000
  · obtain ⟨m, rfl⟩ := Int.eq_ofNat_of_zero_le h.1
    have hl := vt_len5 (n := m) (by omega)
    obtain ⟨K, hK⟩ := impl_VarText.ev0 m [] (by omega) (by simp; omega)
    dsimp only at hK
    refine ⟨K, fun k hk => ?_⟩
    show impl_VarText.f k _ = _
    unfold impl_VarText.f
    rw [impl_within.is, decide_eq_true h, if_pos h]
    simp only [Option.bind_some, if_true]
    rw [nm_nil, hK k hk]
    rfl
  · refine ⟨0, fun k hk => ?_⟩
    show impl_VarText.f k _ = _
    unfold impl_VarText.f
    rw [impl_within.is, decide_eq_false h, if_neg h]
    rfl
theorem impl_ReadVar.ev0 (l : List UInt8) (a : Nat) (ha : a ≤ l.length) (hs : l.length ≤ 140737488351232) (f : Nat) : ∀ (i n0 : Nat), i + f = 5 → a + i ≤ l.length → n0 < pw i →
    Ev (fun k => impl_ReadVar.l0 k (mk l) (a : Int) (n0 : Int) (i : Int)) (rvFin a (lebOn n0 i (leb f (l.drop (a + i))))) := by
  have hsz := mk_size l
  induction f with
  | zero =>
    intro i n0 hi hal hn
    refine ⟨2, fun k hk => ?_⟩
    obtain ⟨k, rfl⟩ : ∃ m, k = m + 2 := ⟨k - 2, by omega⟩
    show impl_ReadVar.l0 (k + 2) _ _ _ _ = _
    rw [impl_ReadVar.l0, if_neg (by omega), impl_ReadVar.j1, if_neg (by simp)]
    rfl
  | succ f ih =>
    intro i n0 hi hal hn
    have hp := pw_le5 (i := i) (by omega)
    have ew : Hd (wrap64 ((a : Int) + (i : Int)) = ((a + i : Nat) : Int)) := Hd.mk <| by rw [w64 (by omega) (by omega)]; omega
    by_cases hlt : a + i < l.length
    · have hb : (l[a + i]).toNat < 256 := (l[a + i]).toNat_lt
      have eb : Hd (wrap64 (bt (mk l) ((a + i : Nat) : Int)) = ((l[a + i]).toNat : Int)) := Hd.mk <| by rw [bt_mk l _ hlt, w64 (by omega) (by omega)]
      have e1 : Hd (Int.tmod ((l[a + i]).toNat : Int) 128 = (((l[a + i]).toNat % 128 : Nat) : Int)) := Hd.mk <| tmod_nat _ 128
      have hd := dg_le (l[a + i]).toNat i (by omega)
      have e2 := shl_digit (l[a + i]).toNat i (by omega)
      have e3 : Hd (wrap64 ((n0 : Int) + ((dg (l[a + i]).toNat i : Nat) : Int)) = ((n0 + dg (l[a + i]).toNat i : Nat) : Int)) := Hd.mk <| by rw [w64 (by omega) (by omega)]; omega
      rw [drop_cons l (a + i) hlt]
      by_cases h128 : (l[a + i]).toNat < 128
      · rw [lebOn_last _ _ _ _ _ h128]
        obtain ⟨K, hK⟩ := impl_VarText.ev ((n0 + dg (l[a + i]).toNat i : Nat) : Int)
        dsimp only at hK
        refine ⟨K + 2, fun k hk => ?_⟩
        obtain ⟨k, rfl⟩ : ∃ m, k = m + 2 := ⟨k - 2, by omega⟩
        show impl_ReadVar.l0 (k + 2) _ _ _ _ = _
        rw [impl_ReadVar.l0, if_pos (by omega), ew.out, decide_eq_true (show ((a + i : Nat) : Int) < ((mk l).size : Int) by omega), impl_ReadVar.j1, if_pos rfl, ew.out, if_pos (by omega), if_pos (by omega),
          if_pos (by rw [w64 (by omega) (by omega)]; omega), eb.out, if_pos (by omega), e1.out, e2, e3.out, hK k (by omega), Option.bind_some]
        unfold varOf
        simp only [rvFin]
        by_cases hm : n0 + dg (l[a + i]).toNat i ≤ 1000000000
        · rw [if_pos (show 0 ≤ ((n0 + dg (l[a + i]).toNat i : Nat) : Int) ∧ ((n0 + dg (l[a + i]).toNat i : Nat) : Int) ≤ 1000000000 by omega)]
          simp only [if_true]
          rw [Int.toNat_natCast, mk_size, w64 (x := (i : Int) + 1) (by omega) (by omega)]
          by_cases hv : (vt (n0 + dg (l[a + i]).toNat i)).length = i + 1
          · rw [if_pos (by omega), if_pos ⟨hm, hv⟩, w64 (by omega) (by omega)]
            rfl
          · rw [if_neg (by omega), if_neg (fun h => hv h.2)]
        · rw [if_neg (show ¬ (0 ≤ ((n0 + dg (l[a + i]).toNat i : Nat) : Int) ∧ ((n0 + dg (l[a + i]).toNat i : Nat) : Int) ≤ 1000000000) by omega)]
          dsimp only
          rw [if_neg (by simp), if_neg (fun h => hm h.1)]
      · rw [lebOn_step _ _ _ _ _ h128]
        have hp2 : n0 + dg (l[a + i]).toNat i < pw (i + 1) := dg_lt hn
        obtain ⟨K, hK⟩ := ih (i + 1) _ (by omega) (by omega) hp2
        dsimp only at hK
        refine ⟨K + 2, fun k hk => ?_⟩
        obtain ⟨k, rfl⟩ : ∃ m, k = m + 2 := ⟨k - 2, by omega⟩
        show impl_ReadVar.l0 (k + 2) _ _ _ _ = _
        rw [impl_ReadVar.l0, if_pos (by omega), ew.out, decide_eq_true (show ((a + i : Nat) : Int) < ((mk l).size : Int) by omega), impl_ReadVar.j1, if_pos rfl, ew.out, if_pos (by omega), if_pos (by omega),
          if_pos (by rw [w64 (by omega) (by omega)]; omega), eb.out, if_neg (by omega), e1.out, e2, e3.out, w64 (x := (i : Int) + 1) (by omega) (by omega)]
        exact hK k (by omega)
    · rw [List.drop_eq_nil_of_le (by omega)]
      refine ⟨2, fun k hk => ?_⟩
      obtain ⟨k, rfl⟩ : ∃ m, k = m + 2 := ⟨k - 2, by omega⟩
      show impl_ReadVar.l0 (k + 2) _ _ _ _ = _
      rw [impl_ReadVar.l0, if_pos (by omega), ew.out, decide_eq_false (show ¬ ((a + i : Nat) : Int) < ((mk l).size : Int) by omega), impl_ReadVar.j1, if_neg (by simp)]
      rfl
theorem impl_ReadVar.ev (l : List UInt8) (hs : l.length ≤ 140737488351232) (a : Int) : Ev (fun k => impl_ReadVar.f k (mk l) a) (rvOf l a) := by
  have hsz := mk_size l
  unfold rvOf
  by_cases h : 0 ≤ a ∧ a ≤ l.length
  · obtain ⟨n, rfl⟩ := Int.eq_ofNat_of_zero_le h.1
    obtain ⟨K, hK⟩ := impl_ReadVar.ev0 l n (by omega) hs 5 0 0 (by omega) (by omega) (pw_pos 0)
    rw [lebOn_zero] at hK
    dsimp only at hK
    refine ⟨K, fun k hk => ?_⟩
    show impl_ReadVar.f k _ _ = _
    unfold impl_ReadVar.f
    rw [hsz, impl_within.is, decide_eq_true h, if_pos h]
    exact hK k hk
  · refine ⟨0, fun k hk => ?_⟩
    show impl_ReadVar.f k _ _ = _
    unfold impl_ReadVar.f
    rw [hsz, impl_within.is, decide_eq_false h, if_neg h]
    rfl
theorem impl_reader_num.ev (l : List UInt8) (hs : l.length ≤ 140737488351232) (a : Nat) (b : Bool) : Ev (fun k => impl_reader_num.f k (mk l) (a : Int) b) ((nmOf l a b).1, mk l, ((nmOf l a b).2.1 : Int), (nmOf l a b).2.2) := by
  obtain ⟨K, h⟩ := impl_ReadVar.ev l hs (a : Int)
  dsimp only at h
  refine ⟨K, fun k hk => ?_⟩
  show impl_reader_num.f k _ _ _ = _
  unfold impl_reader_num.f
  rw [h k hk, Option.bind_some]
  cases b with
  | true => rfl
  | false =>
    rw [if_neg (by simp)]
    by_cases hr : (rvOf l (a : Int)).2.2 = true
    · obtain ⟨n, c, at_', h1, h2, _⟩ := rvOf_facts l (a : Int) hr
      rw [if_pos hr]
      unfold nmOf
      rw [if_neg (by simp), if_pos hr, h2]
      rfl
    · rw [if_neg hr]
      unfold nmOf
      rw [if_neg (by simp), if_neg hr]

theorem rdE.ev0 (l : List UInt8) (hs : l.length ≤ 140737488351232) (n : Nat) (hn : n ≤ 1000000000) (d : Nat) : ∀ (i a : Nat) (b : Bool) (xs : List Int), i + d = n → xs.length = i →
    Ev (fun k => rdE.l0 k (n : Int) (i : Int) (mk l) (a : Int) b xs) (mk l, ((rdn l d a b).2.1 : Int), (rdn l d a b).2.2, xs ++ (rdn l d a b).1) := by
  induction d with
  | zero =>
    intro i a b xs hi hx
    refine ev_now fun k => ?_
    show rdE.l0 (k + 1) _ _ _ _ _ _ = _
    rw [rdE.l0, if_neg (by omega)]
    simp only [rdn, List.append_nil]
  | succ d ih =>
    intro i a b xs hi hx
    cases b with
    | true =>
      refine ev_now fun k => ?_
      show rdE.l0 (k + 1) _ _ _ _ _ _ = _
      rw [rdE.l0, if_pos (by omega), if_pos rfl, rdn_bad, List.append_nil]
    | false =>
      obtain ⟨K1, h1⟩ := impl_reader_num.ev l hs a false
      obtain ⟨K2, h2⟩ := ih (i + 1) (nmOf l a false).2.1 (nmOf l a false).2.2 (xs ++ [(nmOf l a false).1]) (by omega) (by simp; omega)
      dsimp only at h1 h2
      have ew : Hd (wrap64 ((i : Int) + 1) = ((i + 1 : Nat) : Int)) := Hd.mk <| by rw [w64 (by omega) (by omega)]; rfl
      refine ⟨K1 + K2 + 1, fun k hk => ?_⟩
      obtain ⟨k, rfl⟩ : ∃ m, k = m + 1 := ⟨k - 1, by omega⟩
      show rdE.l0 (k + 1) _ _ _ _ _ _ = _
      rw [rdE.l0, if_pos (by omega), if_neg (by simp), h1 k (by omega), Option.bind_some, if_pos (by omega), ew.out]
      dsimp only
      rw [h2 k (by omega), rdn, if_neg (by simp), List.append_assoc]
      rfl
theorem rdE.ev (l : List UInt8) (hs : l.length ≤ 140737488351232) (a : Nat) (ha : a ≤ l.length) (b : Bool) (r : Int × Nat × Bool) (hr : r = nmOf l a b) (q : List Int × Nat × Bool) (hq : q = rdn l r.1.toNat r.2.1 r.2.2) :
    Ev (fun k => rdE.f k (mk l) (a : Int) b) (mk l, (q.2.1 : Int), q.2.2, q.1) := by
  obtain ⟨K1, h1⟩ := impl_reader_num.ev l hs a b
  obtain ⟨n, h2, h3, _⟩ := nmOf_rng l a b ha
  obtain ⟨K2, h4⟩ := rdE.ev0 l hs n h3 n 0 (nmOf l a b).2.1 (nmOf l a b).2.2 [] (by omega) rfl
  dsimp only at h1 h4
  refine ⟨K1 + K2, fun k hk => ?_⟩
  show rdE.f k _ _ _ = _
  unfold rdE.f
  rw [h1 k (by omega), Option.bind_some]
  dsimp only
  rw [h2]
  have h5 := h4 k (by omega)
  rw [show ((0 : Nat) : Int) = 0 from rfl] at h5
  rw [h5, hq, hr, h2, Int.toNat_natCast, List.nil_append]

theorem loop_all {F : Nat → Nat → Option Bool} {C : Nat → Bool} {n : Nat} {fin : Bool} (step : ∀ k i, i < n → F (k + 1) i = if C i = true then F k (i + 1) else some false)
    (stop : Ev (fun k => F k n) fin) (d : Nat) : ∀ i, i + d = n → Ev (fun k => F k i) (allF C d i && fin) := by
  induction d with
  | zero =>
    intro i hi
    obtain rfl : i = n := by omega
    rw [allF, Bool.true_and]
    exact stop
  | succ d ih =>
    intro i hi
    by_cases hC : C i = true
    · rw [allF, hC, Bool.true_and]
      exact Ev.step (fun k => by rw [step k i (by omega), if_pos hC]) (ih (i + 1) (by omega))
    · rw [allF, Bool.eq_false_iff.2 hC, Bool.false_and, Bool.false_and]
      exact ev_now fun k => by rw [step k i (by omega), if_neg hC]
theorem impl_ConfOk.ev0 (l : List Int) (hs : l.length ≤ 17592186043904) (d : Nat) : ∀ (i : Nat), i + d = l.length →
    Ev (fun k => impl_ConfOk.l0 k l l (l.length : Int) (i : Int)) (allF (riseC l 1 4) d i && decide (1 ≤ (l.length : Int) ∧ (l.length : Int) ≤ 4)) := by
  induction d with
  | zero =>
    intro i hi
    refine ev_now fun k => ?_
    show impl_ConfOk.l0 (k + 1) _ _ _ _ = _
    rw [impl_ConfOk.l0, if_neg (by omega)]
    rw [impl_within.is]; simp [allF]
  | succ d ih =>
    intro i hi
    have e0 : rd l (i : Int) = l.getD i 0 := rfl
    by_cases h1 : 1 ≤ l.getD i 0 ∧ l.getD i 0 ≤ 4
    · by_cases h2 : i = 0
      · have hC : riseC l 1 4 i = true := by simp only [riseC, decide_eq_true h1, decide_eq_true h2, Bool.true_or, Bool.and_true]
        simp only [allF, hC, Bool.true_and]
        refine Ev.step (fun k => ?_) (ih (i + 1) (by omega))
        show impl_ConfOk.l0 (k + 1) _ _ _ _ = impl_ConfOk.l0 k _ _ _ _
        rw [impl_ConfOk.l0, if_pos (by omega), if_pos (by omega), if_pos (by omega), impl_within.is, e0, decide_eq_true h1]
        simp only [Option.bind_some, if_true]
        rw [if_neg (by omega), w64 (by omega) (by omega)]
        rfl
      · have e1 : rd l (wrap64 ((i : Int) - 1)) = l.getD (i - 1) 0 := by
          rw [w64 (by omega) (by omega), show (i : Int) - 1 = ((i - 1 : Nat) : Int) by omega, rd_nat]
        have e2 : wrap64 ((i : Int) - 1) = ((i - 1 : Nat) : Int) := by rw [w64 (by omega) (by omega)]; omega
        by_cases h3 : l.getD (i - 1) 0 < l.getD i 0
        · have hC : riseC l 1 4 i = true := by simp only [riseC, decide_eq_true h1, decide_eq_true h3, Bool.or_true, Bool.and_true]
          simp only [allF, hC, Bool.true_and]
          refine Ev.step (fun k => ?_) (ih (i + 1) (by omega))
          show impl_ConfOk.l0 (k + 1) _ _ _ _ = impl_ConfOk.l0 k _ _ _ _
          rw [impl_ConfOk.l0, if_pos (by omega), if_pos (by omega), if_pos (by omega), impl_within.is, e0, decide_eq_true h1]
          simp only [Option.bind_some, if_true]
          rw [if_pos (by omega), if_pos (by omega), if_pos (by omega), e1, if_neg (by omega), w64 (x := (i : Int) + 1) (by omega) (by omega)]
          rfl
        · have hC : riseC l 1 4 i = false := by simp only [riseC, decide_eq_true h1, decide_eq_false h3, decide_eq_false h2, Bool.or_false, Bool.and_false]
          simp only [allF, hC, Bool.false_and]
          refine ev_now fun k => ?_
          show impl_ConfOk.l0 (k + 1) _ _ _ _ = _
          rw [impl_ConfOk.l0, if_pos (by omega), if_pos (by omega), if_pos (by omega), impl_within.is, e0, decide_eq_true h1]
          simp only [Option.bind_some, if_true]
          rw [if_pos (by omega), if_pos (by omega), if_pos (by omega), e1, if_pos (by omega)]
    · have hC : riseC l 1 4 i = false := by simp only [riseC, decide_eq_false h1, Bool.false_and]
      simp only [allF, hC, Bool.false_and]
      refine ev_now fun k => ?_
      show impl_ConfOk.l0 (k + 1) _ _ _ _ = _
      rw [impl_ConfOk.l0, if_pos (by omega), if_pos (by omega), if_pos (by omega), impl_within.is, e0, decide_eq_false h1]
      simp
theorem impl_ConfOk.ev (l : List Int) (hs : l.length ≤ 17592186043904) : Ev (fun k => impl_ConfOk.f k l) (confOf l) := by
  obtain ⟨K, h⟩ := impl_ConfOk.ev0 l hs l.length 0 (by omega)
  exact ⟨K, fun k hk => h k hk⟩
theorem impl_ManifestOk.step (l : List Int) (next base bt : Int) (c : List Int) (hs : l.length ≤ 1048576) (k i : Nat) (hlt : i < l.length) :
    impl_ManifestOk.l0 (k + 1) l (l.length : Int) (i : Int) l next base bt c = if manC l next i = true then impl_ManifestOk.l0 k l (l.length : Int) ((i + 1 : Nat) : Int) l next base bt c else some false := by
  have e0 : rd l (i : Int) = l.getD i 0 := rfl
  have e3 : Hd (wrap64 ((i : Int) + 1) = ((i + 1 : Nat) : Int)) := Hd.mk <| by rw [w64 (by omega) (by omega)]; rfl
  have e2 : Hd (0 < i → wrap64 ((i : Int) - 1) = ((i - 1 : Nat) : Int)) := Hd.mk fun h => by rw [w64 (by omega) (by omega)]; omega
  rw [impl_ManifestOk.l0, if_pos (by omega), if_pos (by omega), if_pos (by omega), e0, impl_within.is, Option.bind_some, e3.out]
  by_cases h2 : i = 0
  · simp only [if_neg (show ¬ ((i : Int) > 0) by omega)]
    unfold manC
    generalize l.getD i 0 = x
    generalize impl_ManifestOk.l0 k l (l.length : Int) ((i + 1 : Nat) : Int) l next base bt c = R
    by_cases h1 : 0 ≤ x ∧ x ≤ 999 <;> by_cases hv : x ≥ next <;> simp [h1, hv, h2]
  · have e1 : rd l ((i - 1 : Nat) : Int) = l.getD (i - 1) 0 := rfl
    simp only [if_pos (show ((i : Int) > 0) by omega), e2.out (by omega), if_pos (show (0 : Int) ≤ ((i - 1 : Nat) : Int) by omega), if_pos (show ((i - 1 : Nat) : Int) < (l.length : Int) by omega), e1]
    unfold manC
    generalize l.getD i 0 = x
    generalize l.getD (i - 1) 0 = y
    generalize impl_ManifestOk.l0 k l (l.length : Int) ((i + 1 : Nat) : Int) l next base bt c = R
    by_cases h1 : 0 ≤ x ∧ x ≤ 999 <;> by_cases hv : x ≥ next <;> by_cases hb : y ≥ x <;> simp [h1, hv, hb, h2]
theorem impl_ManifestOk.ev (l : List Int) (next base bt : Int) (c : List Int) (hs : l.length ≤ 1048576) (hc : c.length ≤ 1048576) : Ev (fun k => impl_ManifestOk.f k l next base bt c) (manOf l next base bt c) := by
  have stop : Ev (fun k => impl_ManifestOk.l0 k l (l.length : Int) ((l.length : Nat) : Int) l next base bt c)
      (decide (1 ≤ (l.length : Int) ∧ (l.length : Int) ≤ 8) && (decide (next ≤ 1000) && (decide (0 ≤ base ∧ base ≤ 100000) && (decide (0 ≤ bt ∧ bt ≤ 100000) && confOf c)))) := by
    obtain ⟨K, hK⟩ := impl_ConfOk.ev c (by omega)
    dsimp only at hK
    refine ⟨K + 1, fun k hk => ?_⟩
    obtain ⟨k, rfl⟩ : ∃ m, k = m + 1 := ⟨k - 1, by omega⟩
    show impl_ManifestOk.l0 (k + 1) _ _ _ _ _ _ _ _ = _
    rw [impl_ManifestOk.l0, if_neg (by omega), hK k (by omega)]
    simp only [impl_within.is, Option.bind_some]
    by_cases h1 : 1 ≤ (l.length : Int) ∧ (l.length : Int) ≤ 8 <;> by_cases h2 : next ≤ 1000 <;> by_cases h3 : 0 ≤ base ∧ base ≤ 100000 <;> by_cases h4 : 0 ≤ bt ∧ bt ≤ 100000 <;> simp [h1, h2, h3, h4]
  obtain ⟨K, h⟩ := loop_all (F := fun k i => impl_ManifestOk.l0 k l (l.length : Int) (i : Int) l next base bt c) (fun k i hi => impl_ManifestOk.step l next base bt c hs k i hi) stop l.length 0 (by omega)
  exact ⟨K, fun k hk => h k hk⟩
theorem impl_SumMore.ev1 (l : List UInt8) (i : Nat) (hi : i < l.length) (hs : l.length ≤ 140737488351232) (r : Int) (d : Nat) :
    ∀ (x j : Nat), x < 4294967296 → j + d = 8 → Ev (fun k => impl_SumMore.l0 k ((crcBits d x : Nat) : Int) (mk l) ((i + 1 : Nat) : Int)) r → Ev (fun k => impl_SumMore.l1 k (x : Int) (mk l) (i : Int) (j : Int)) r := by
  induction d with
  | zero =>
    intro x j hx hj h
    refine Ev.step (fun k => ?_) h
    show impl_SumMore.l1 (k + 1) _ _ _ _ = _
    rw [impl_SumMore.l1]
    rw [if_neg (by omega), w64 (by omega) (by omega)]
    rfl
  | succ d ih =>
    intro x j hx hj h
    refine Ev.step (fun k => ?_) (ih (crcBit x) (j + 1) (crcBit_lt hx) (by omega) h)
    show impl_SumMore.l1 (k + 1) _ _ _ _ = _
    rw [impl_SumMore.l1]
    have e1 : Int.tmod (x : Int) 2 = ((x % 2 : Nat) : Int) := tmod_nat x 2
    have e2 : Int.tdiv (x : Int) 2 = ((x / 2 : Nat) : Int) := tdiv_nat x 2
    rw [if_pos (by omega), w64 (x := (j : Int) + 1) (by omega) (by omega), e1, e2, show ((x / 2 : Nat) : Int) % 4294967296 = ((x / 2 : Nat) : Int) by omega]
    unfold crcBit
    by_cases hb : x % 2 = 1
    · rw [if_pos (by omega), if_pos hb, show (3558460437 : Int) = ((3558460437 : Nat) : Int) from rfl, u32_xor_nat _ _ (by omega) (by omega)]
      rfl
    · rw [if_neg (by omega), if_neg hb]
      rfl
theorem impl_SumMore.ev0 (l : List UInt8) (hs : l.length ≤ 140737488351232) (d : Nat) :
    ∀ (i x : Nat), x < 4294967296 → i + d = l.length → Ev (fun k => impl_SumMore.l0 k (x : Int) (mk l) (i : Int)) ((crcL x (l.drop i) : Nat) : Int) := by
  have hsz := mk_size l
  induction d with
  | zero =>
    intro i x hx hi
    refine ⟨1, fun k hk => ?_⟩
    obtain ⟨k, rfl⟩ : ∃ m, k = m + 1 := ⟨k - 1, by omega⟩
    show impl_SumMore.l0 (k + 1) _ _ _ = _
    rw [impl_SumMore.l0]
    rw [if_neg (by omega), List.drop_eq_nil_of_le (by omega)]
    rfl
  | succ d ih =>
    intro i x hx hi
    have hlt : i < l.length := by omega
    have hb : (l[i]).toNat < 256 := (l[i]).toNat_lt
    have hx2 : x ^^^ (l[i]).toNat < 4294967296 := xor_lt32 hx (by omega)
    rw [drop_cons l i hlt, crcL_cons]
    refine Ev.step (fun k => ?_) (impl_SumMore.ev1 l i hlt hs _ 8 (x ^^^ (l[i]).toNat) 0 hx2 (by omega) (ih (i + 1) _ (crcBits_lt 8 hx2) (by omega)))
    show impl_SumMore.l0 (k + 1) _ _ _ = _
    rw [impl_SumMore.l0]
    rw [if_pos (by omega), if_pos (by omega), bt_mk l i hlt, show (((l[i]).toNat : Nat) : Int) % 4294967296 = ((l[i]).toNat : Int) by omega, u32_xor_nat _ _ hx (by omega)]
    rfl
theorem impl_SumMore.ev (l : List UInt8) (hs : l.length ≤ 140737488351232) (x : Nat) (hx : x < 4294967296) : Ev (fun k => impl_SumMore.f k (x : Int) (mk l)) ((crcL x l : Nat) : Int) :=
  impl_SumMore.ev0 l hs l.length 0 x hx (by omega)
theorem impl_SumOf.ev (l : List UInt8) (hs : l.length ≤ 140737488351232) : Ev (fun k => impl_SumOf.f k (mk l)) ((crc l : Nat) : Int) := by
  obtain ⟨K, h⟩ := impl_SumMore.ev l hs 4294967295 (by omega)
  dsimp only at h
  refine ⟨K, fun k hk => ?_⟩
  show impl_SumOf.f k _ = _
  unfold impl_SumOf.f
  rw [show (4294967295 : Int) = ((4294967295 : Nat) : Int) from rfl, h k hk]
  rfl
theorem impl_Sealed.ev (l : List UInt8) (hs : l.length ≤ 140737488351232) : Ev (fun k => impl_Sealed.f k (mk l)) (sealOf l) := by
  have hsz := mk_size l
  unfold sealOf
  obtain ⟨K, h⟩ := impl_SumOf.ev l hs
  dsimp only at h
  refine ⟨K, fun k hk => ?_⟩
  show impl_Sealed.f k _ = _
  unfold impl_Sealed.f
  by_cases hc : l.length ≤ 20000
  · rw [if_neg (by omega), if_pos hc, h k hk, Option.bind_some, Option.bind_some, four_nm, strOf_nm, if_pos (by rw [mk_size, mk_size, four_len]; omega), mk_append]
  · rw [if_pos (by omega), if_neg hc]
    rfl
theorem impl_Unsealed.ev (l : List UInt8) (hs : l.length ≤ 140737488351232) : Ev (fun k => impl_Unsealed.f k (mk l)) (unsealOf l) := by
  have hsz := mk_size l
  unfold unsealOf
  obtain ⟨K, h⟩ := impl_Sealed.ev (l.take (l.length - 4)) (by simp; omega)
  dsimp only at h
  refine ⟨K, fun k hk => ?_⟩
  show impl_Unsealed.f k _ = _
  unfold impl_Unsealed.f
  by_cases h4 : 4 ≤ l.length
  · rw [unseal_w l h4 hs, unseal_cut, if_neg (by omega), if_pos (by omega), if_pos (by omega), h k hk, Option.bind_some]
    have hlt : (l.take (l.length - 4)).length = l.length - 4 := by simp
    unfold sealOf
    by_cases hm : l.length ≤ 20004
    · rw [if_pos (show (l.take (l.length - 4)).length ≤ 20000 by omega)]
      have e : (mk (l.take (l.length - 4) ++ four (crc (l.take (l.length - 4))))).toList = (mk l).toList ↔ l.drop (l.length - 4) = four (crc (l.take (l.length - 4))) := by
        rw [mk_toList, mk_toList]
        conv => lhs; rhs; rw [← List.take_append_drop (l.length - 4) l]
        constructor
        · intro h'
          exact (List.append_cancel_left h').symm
        · intro h'
          rw [h']
      simp only [if_true]
      by_cases hd : l.drop (l.length - 4) = four (crc (l.take (l.length - 4)))
      · rw [if_pos (e.2 hd), if_pos ⟨h4, hm, hd⟩]
      · rw [if_neg (fun h' => hd (e.1 h')), if_neg (fun h' => hd h'.2.2)]
        rfl
    · rw [if_neg (show ¬ (l.take (l.length - 4)).length ≤ 20000 by omega), if_neg (show ¬ (4 ≤ l.length ∧ l.length ≤ 20004 ∧ l.drop (l.length - 4) = four (crc (l.take (l.length - 4)))) from fun h' => hm h'.2.1)]
      rfl
  · rw [if_pos (by omega), if_neg (fun h' => h4 h'.1)]
    rfl
theorem impl_ReadManifest.ev (t : List UInt8) (ht : t.length ≤ 1048576) : Ev (fun k => impl_ReadManifest.f k (mk t)) (implMan t) := by
  have hl := unsL_len t
  obtain ⟨K0, h0⟩ := impl_Unsealed.ev t (by omega)
  dsimp only at h0
  rw [unsealOf_L] at h0
  unfold implMan
  generalize (unsL t).1 = l at *
  generalize (unsL t).2 = ok at *
  have hs : l.length ≤ 140737488351232 := by omega
  cases ok with
  | false =>
    rw [if_neg (by simp)]
    refine ⟨K0, fun k hk => ?_⟩
    show impl_ReadManifest.f k _ = _
    unfold impl_ReadManifest.f
    rw [h0 k (by omega), Option.bind_some, if_neg (by simp)]
    rfl
  | true =>
    rw [if_pos rfl]
    unfold rdMan rdTail
    dsimp only [id]
    obtain ⟨m0, e0, f0, l0⟩ := nmOf_rng l 0 false (Nat.zero_le _)
    obtain ⟨K1, h1⟩ := rdE.ev l hs 0 (Nat.zero_le _) false _ rfl _ rfl
    generalize nmOf l 0 false = r0 at *
    have lq0 := rdn_rng l r0.1.toNat r0.2.1 r0.2.2 l0
    have sq0 : (rdn l r0.1.toNat r0.2.1 r0.2.2).1.length ≤ 20000 ∨ (rdn l r0.1.toNat r0.2.1 r0.2.2).1.length ≤ 1048576 := by
      exact rdn_small l hl r0.1.toNat r0.2.1 r0.2.2 l0
    generalize rdn l r0.1.toNat r0.2.1 r0.2.2 = q0 at *
    obtain ⟨_, _, _, l1⟩ := nmOf_rng l q0.2.1 q0.2.2 lq0
    obtain ⟨K2, h2⟩ := impl_reader_num.ev l hs q0.2.1 q0.2.2
    generalize nmOf l q0.2.1 q0.2.2 = r1 at *
    obtain ⟨_, _, _, l2⟩ := nmOf_rng l r1.2.1 r1.2.2 l1
    obtain ⟨K3, h3⟩ := impl_reader_num.ev l hs r1.2.1 r1.2.2
    generalize nmOf l r1.2.1 r1.2.2 = r2 at *
    obtain ⟨_, _, _, l3⟩ := nmOf_rng l r2.2.1 r2.2.2 l2
    obtain ⟨K4, h4⟩ := impl_reader_num.ev l hs r2.2.1 r2.2.2
    generalize nmOf l r2.2.1 r2.2.2 = r3 at *
    obtain ⟨m4, e4, f4, l4⟩ := nmOf_rng l r3.2.1 r3.2.2 l3
    obtain ⟨K5, h5⟩ := rdE.ev l hs r3.2.1 l3 r3.2.2 _ rfl _ rfl
    generalize nmOf l r3.2.1 r3.2.2 = r4 at *
    have lq4 := rdn_rng l r4.1.toNat r4.2.1 r4.2.2 l4
    have sq4 := rdn_small l hl r4.1.toNat r4.2.1 r4.2.2 l4
    generalize rdn l r4.1.toNat r4.2.1 r4.2.2 = q4 at *
    obtain ⟨K6, h6⟩ := impl_ManifestOk.ev q0.1 r1.1 r2.1 r3.1 q4.1 (by omega) (by omega)
    dsimp only at h1 h2 h3 h4 h5 h6
    have hsz := mk_size l
    refine ⟨K0 + K1 + K2 + K3 + K4 + K5 + K6, fun k hk => ?_⟩
    show impl_ReadManifest.f k _ = _
    unfold impl_ReadManifest.f
    have h1' := h1 k (by omega)
    rw [show ((0 : Nat) : Int) = 0 from rfl] at h1'
    rw [h0 k (by omega), Option.bind_some, if_pos rfl, h1', Option.bind_some]
    dsimp only
    rw [h2 k (by omega), Option.bind_some]
    dsimp only
    rw [h3 k (by omega), Option.bind_some]
    dsimp only
    rw [h4 k (by omega), Option.bind_some]
    dsimp only
    rw [h5 k (by omega), Option.bind_some]
    dsimp only
    unfold impl_reader_done.f implFin
    dsimp only
    by_cases hb : q4.2.2 = true
    · rw [if_pos hb, Option.bind_some, if_neg (by simp), if_neg (by rw [hb]; simp)]
      rfl
    · have hb' : q4.2.2 = false := Bool.eq_false_iff.2 hb
      rw [if_neg hb, Option.bind_some]
      by_cases ha : q4.2.1 = l.length
      · rw [if_pos (by rw [beq_iff_eq]; omega), if_pos ⟨hb', ha⟩, h6 k (by omega), Option.bind_some]
        by_cases hm : manOf q0.1 r1.1 r2.1 r3.1 q4.1 = true
        · rw [if_pos hm, if_pos hm]
        · rw [if_neg hm, if_neg hm]
          rfl
      · rw [if_neg (by rw [beq_iff_eq]; omega), if_neg (fun h => ha h.2)]
        rfl

/-- Marks, from a on. -/
def mkI (a : Nat) : Nat → List Int
  | 0 => []
  | n + 1 => (a : Int) :: mkI (a + 1) n
theorem mkI_len : ∀ (n a : Nat), (mkI a n).length = n
  | 0, _ => rfl
  | n + 1, a => by simp [mkI, mkI_len n]
theorem laws_markIntS.ev0 (d : Nat) : ∀ (i n : Nat) (x : List Int), i + d = x.length → n ≤ 4194304 + i → x.length ≤ 1048576 → Ev (fun k => laws_markIntS.l0 k x (n : Int) (i : Int)) (((n + d : Nat) : Int), x.take i ++ mkI n d) := by
  induction d with
  | zero =>
    intro i n x hi hn hx
    refine ev_now fun k => ?_
    show laws_markIntS.l0 (k + 1) _ _ _ = _
    rw [laws_markIntS.l0, if_neg (by omega), List.take_of_length_le (by omega)]
    simp [mkI]
  | succ d ih =>
    intro i n x hi hn hx
    have hlt : i < x.length := by omega
    have e1 : Hd (wrap64 ((i : Int) + 1) = ((i + 1 : Nat) : Int)) := Hd.mk <| by rw [w64 (by omega) (by omega)]; rfl
    have e2 : Hd (wrap64 ((n : Int) + 1) = ((n + 1 : Nat) : Int)) := Hd.mk <| by rw [w64 (by omega) (by omega)]; rfl
    have h := ih (i + 1) (n + 1) (x.set i (n : Int)) (by simp; omega) (by omega) (by simpa using hx)
    rw [show n + 1 + d = n + (d + 1) by omega, List.take_succ_eq_append_getElem (by simp; omega), List.take_set_of_le (by omega), List.append_assoc] at h
    have h2 : x.take i ++ ([(x.set i (n : Int))[i]'(by simp; omega)] ++ mkI (n + 1) d) = x.take i ++ mkI n (d + 1) := by simp [mkI]
    rw [h2] at h
    refine Ev.step (fun k => ?_) h
    show laws_markIntS.l0 (k + 1) _ _ _ = laws_markIntS.l0 k _ _ _
    rw [laws_markIntS.l0, if_pos (by omega), if_pos (by omega), e1.out, e2.out, Int.toNat_natCast]
theorem laws_markIntS.ev (x : List Int) (n : Nat) (hn : n ≤ 4194304) (hx : x.length ≤ 1048576) : Ev (fun k => laws_markIntS.f k x (n : Int)) (((n + x.length : Nat) : Int), mkI n x.length) := by
  have h := laws_markIntS.ev0 x.length 0 n x (by omega) (by omega) hx
  rw [List.take_zero, List.nil_append] at h
  exact h
theorem laws_heldIntS.ev0 (x : List Int) (hx : x.length ≤ 1048576) (d : Nat) : ∀ (i n : Nat), i + d = x.length → n ≤ 4194304 + i → x.drop i = mkI n d → Ev (fun k => laws_heldIntS.l0 k x (n : Int) (i : Int)) ((n + d : Nat) : Int) := by
  induction d with
  | zero =>
    intro i n hi hn h
    refine ev_now fun k => ?_
    show laws_heldIntS.l0 (k + 1) _ _ _ = _
    rw [laws_heldIntS.l0, if_neg (by omega)]
    rfl
  | succ d ih =>
    intro i n hi hn h
    have hlt : i < x.length := by omega
    rw [List.drop_eq_getElem_cons hlt, mkI, List.cons.injEq] at h
    have e0 : rd x (i : Int) = (n : Int) := by rw [rd_nat, ← h.1]; simp [List.getD_eq_getElem?_getD, List.getElem?_eq_getElem hlt]
    have e1 : Hd (wrap64 ((i : Int) + 1) = ((i + 1 : Nat) : Int)) := Hd.mk <| by rw [w64 (by omega) (by omega)]; rfl
    have e2 : Hd (wrap64 ((n : Int) + 1) = ((n + 1 : Nat) : Int)) := Hd.mk <| by rw [w64 (by omega) (by omega)]; rfl
    have h2 := ih (i + 1) (n + 1) (by omega) (by omega) h.2
    rw [show n + 1 + d = n + (d + 1) by omega] at h2
    refine Ev.step (fun k => ?_) h2
    show laws_heldIntS.l0 (k + 1) _ _ _ = laws_heldIntS.l0 k _ _ _
    rw [laws_heldIntS.l0, if_pos (by omega), if_pos (by omega), e0, if_pos rfl, e1.out, e2.out]
theorem laws_heldIntS.ev (m n : Nat) (hn : n ≤ 4194304) (hm : m ≤ 1048576) : Ev (fun k => laws_heldIntS.f k (mkI n m) (n : Int)) ((n + m : Nat) : Int) := by
  have h := laws_heldIntS.ev0 (mkI n m) (by rw [mkI_len]; exact hm) m 0 n (by rw [mkI_len]; omega) (by omega) (by rw [List.drop_zero])
  exact h

theorem laws_eqIntS.ev0 (a : List Int) (hs : a.length ≤ 17592186043904) (d : Nat) : ∀ (i : Nat), i + d = a.length → Ev (fun k => laws_eqIntS.l0 k a a (i : Int)) true := by
  induction d with
  | zero =>
    intro i hi
    refine ev_now fun k => ?_
    show laws_eqIntS.l0 (k + 1) _ _ _ = _
    rw [laws_eqIntS.l0, if_neg (by omega)]
  | succ d ih =>
    intro i hi
    refine Ev.step (fun k => ?_) (ih (i + 1) (by omega))
    show laws_eqIntS.l0 (k + 1) _ _ _ = laws_eqIntS.l0 k _ _ _
    rw [laws_eqIntS.l0, if_pos (by omega), if_pos (by omega), if_pos (by omega), if_pos rfl, w64 (by omega) (by omega)]
    rfl
theorem laws_eqIntS.ev1 (a : List Int) (hs : a.length ≤ 17592186043904) : Ev (fun k => laws_eqIntS.f k a a) true := by
  obtain ⟨K, h⟩ := laws_eqIntS.ev0 a hs a.length 0 (by omega)
  dsimp only at h
  refine ⟨K, fun k hk => ?_⟩
  show laws_eqIntS.f k _ _ = _
  unfold laws_eqIntS.f
  rw [if_pos rfl]
  exact h k hk

theorem specMan_small (t : List UInt8) : (specMan t).1.length ≤ 8 ∧ (specMan t).2.2.2.2.1.length ≤ 4 := by
  unfold specMan specFin
  generalize rdMan (unsL t).1 (!(unsL t).2) (fun n => min n 9) (fun n => min n 5) = m
  by_cases hb : m.b = true
  · rw [if_pos hb]
    exact ⟨by simp [manNo], by simp [manNo]⟩
  · rw [if_neg hb]
    by_cases hc : (manTextOf m.segs m.n1 m.n2 m.n3 m.conf).2 = true ∧ (manTextOf m.segs m.n1 m.n2 m.n3 m.conf).1 = mk t
    · rw [if_pos hc]
      have hm : manOf m.segs m.n1 m.n2 m.n3 m.conf = true := by
        refine Classical.byContradiction fun hm => ?_
        have h := hc.1
        unfold manTextOf at h
        rw [if_neg hm] at h
        exact absurd h (by simp)
      obtain ⟨a1, a2, a3, a4, a5, a6, a7, a8, a9, b1, b2, b3⟩ := manOf_small hm
      exact ⟨a2, b2⟩
    · rw [if_neg hc]
      exact ⟨by simp [manNo], by simp [manNo]⟩
theorem FnExactReadManifest : ∀ (a0 : ByteArray), (a0.size ≤ maxLen) → ∃ k, laws_FnExactReadManifest.f k a0 = some true := by
  intro s hs
  unfold maxLen at hs
  by_cases hb : (s.size : Int) > 1048576
  · refine ⟨0, ?_⟩
    unfold laws_FnExactReadManifest.f
    rw [if_pos hb]
  obtain ⟨t, rfl⟩ := mk_of s
  have hsz := mk_size t
  obtain ⟨K1, h1⟩ := spec_ReadManifest.ev t (by omega)
  obtain ⟨K2, h2⟩ := impl_ReadManifest.ev t (by omega)
  rw [← man_same] at h2
  obtain ⟨hl, hc⟩ := specMan_small t
  generalize specMan t = r at *
  obtain ⟨l, n1, n2, n3, c, ok⟩ := r
  dsimp only at hl hc
  obtain ⟨K3, h3⟩ := laws_eqIntS.ev1 l (by omega)
  obtain ⟨K4, h4⟩ := laws_eqIntS.ev1 c (by omega)
  obtain ⟨K5, h5⟩ := laws_markIntS.ev l 1 (by omega) (by omega)
  obtain ⟨K6, h6⟩ := laws_markIntS.ev c (1 + l.length) (by omega) (by omega)
  obtain ⟨K7, h7⟩ := laws_heldIntS.ev l.length 1 (by omega) (by omega)
  obtain ⟨K8, h8⟩ := laws_heldIntS.ev c.length (1 + l.length) (by omega) (by omega)
  dsimp only at h1 h2 h3 h4 h5 h6 h7 h8
  have held : ∀ k, K7 + K8 ≤ k → laws_heldManifest.f k (mkI 1 l.length) n1 n2 n3 (mkI (1 + l.length) c.length) 1 = some ((1 + l.length + c.length : Nat) : Int) := by
    intro k hk
    unfold laws_heldManifest.f
    have h7' := h7 k (by omega)
    rw [show ((1 : Nat) : Int) = 1 from rfl] at h7'
    rw [h7', Option.bind_some, if_neg (by omega), h8 k (by omega), Option.bind_some, if_neg (by omega)]
  have eqm : ∀ k, K3 + K4 ≤ k → laws_eqManifest.f k l n1 n2 n3 c l n1 n2 n3 c = some true := by
    intro k hk
    unfold laws_eqManifest.f
    rw [h3 k (by omega), Option.bind_some, if_pos rfl, if_pos rfl, if_pos rfl, if_pos rfl, h4 k (by omega), Option.bind_some, if_pos rfl]
  have mark : ∀ k, K5 + K6 ≤ k → laws_markManifest.f k l n1 n2 n3 c 1 = some (((1 + l.length + c.length : Nat) : Int), mkI 1 l.length, mkI (1 + l.length) c.length) := by
    intro k hk
    unfold laws_markManifest.f
    have h5' := h5 k (by omega)
    rw [show ((1 : Nat) : Int) = 1 from rfl] at h5'
    rw [h5', Option.bind_some]
    dsimp only
    rw [h6 k (by omega), Option.bind_some]
  refine ⟨K1 + K2 + K3 + K4 + K5 + K6 + K7 + K8 + 2, ?_⟩
  unfold laws_FnExactReadManifest.f
  rw [if_neg hb, h1 _ (by omega), Option.bind_some, h2 _ (by omega), Option.bind_some]
  dsimp only
  rw [eqm _ (by omega), Option.bind_some, if_pos rfl]
  simp only [bne_self_eq_false]
  rw [laws_FnExactReadManifest.j0, if_neg (by simp), mark _ (by omega), Option.bind_some]
  dsimp only
  rw [held _ (by omega), Option.bind_some, if_neg (by omega), if_pos rfl, h2 _ (by omega), Option.bind_some]
  dsimp only
  rw [eqm _ (by omega), Option.bind_some, if_pos rfl]
  simp only [bne_self_eq_false]
  rw [laws_FnExactReadManifest.j1, if_neg (by simp), held _ (by omega), Option.bind_some, if_neg (by omega), if_pos rfl]

end Go.Proofs.Ytpnncgfmihjlkaa.Pure
