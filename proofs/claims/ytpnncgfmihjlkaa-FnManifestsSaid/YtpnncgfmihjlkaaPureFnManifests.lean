/- The law FnManifests, over numbers and lists: for every input that the statement speaks of the printed function answers true; conditions: those of the printed statement. -/
import Derived.Test.YtpnncgfmihjlkaaQFnManifestsx1
import Derived.Test.YtpnncgfmihjlkaaQFnManifestsx2
import Derived.Test.YtpnncgfmihjlkaaQFnManifestsx3
import Derived.Test.YtpnncgfmihjlkaaQFnManifestsx4
import Derived.Test.YtpnncgfmihjlkaaQFnManifestsx5
import Derived.Test.YtpnncgfmihjlkaaQFnManifestsx6
import Derived.Test.YtpnncgfmihjlkaaQFnManifestsx7
import Derived.Test.YtpnncgfmihjlkaaQFnManifestsx8
import Derived.Laws.BitsAllLaws
import Derived.Sort.Walk0
import Derived.Lib.Bytealg
namespace Go.Proofs.Ytpnncgfmihjlkaa.Pure
open Go.RowKit Go.Proofs.Ytpnncgfmihjlkaa.QFnManifests Go.Proofs.YtpnncgfmihjlkaaW.PrintWords Go.Proofs.YtpnncgfmihjlkaaW.PrintLast Go.Proofs.YtpnncgfmihjlkaaW.PrintMore
set_option linter.unusedVariables false
set_option linter.unusedSimpArgs false

/-! ### strings as lists of bytes -/
def mk (l : List UInt8) : ByteArray := ⟨l.toArray⟩
def nm (l : List UInt8) : List Int := l.map fun b => (b.toNat : Int)
theorem mk_of (s : ByteArray) : ∃ l, s = mk l := ⟨s.data.toList, rfl⟩
theorem mk_data (l : List UInt8) : (mk l).data.toList = l := rfl
theorem mk_toList (l : List UInt8) : (mk l).toList = l := by rw [ByteArray.toList_eq]; rfl
theorem mk_size (l : List UInt8) : (mk l).size = l.length := List.size_toArray
theorem mk_inj {a b : List UInt8} (h : mk a = mk b) : a = b := by rw [← mk_data a, h]; rfl
theorem mk_append (a b : List UInt8) : mk a ++ mk b = mk (a ++ b) := by
  apply ByteArray.ext
  rw [ByteArray.data_append]
  simp [mk]
theorem mk_extract (l : List UInt8) (i j : Nat) : (mk l).extract i j = mk ((l.drop i).take (j - i)) := by
  apply ByteArray.ext
  rw [ByteArray.data_extract]
  apply Array.ext'
  simp [mk, List.take_drop]
theorem mk_nil : (⟨#[]⟩ : ByteArray) = mk [] := rfl
theorem nm_append (a b : List UInt8) : nm (a ++ b) = nm a ++ nm b := by simp [nm]
theorem nm_length (a : List UInt8) : (nm a).length = a.length := by simp [nm]
theorem nm_nil : ([] : List Int) = nm [] := rfl
theorem strOf_nm (l : List UInt8) : strOfNums (nm l) = mk l := by
  unfold strOfNums nm mk
  rw [List.map_map]
  congr 1
  have : ∀ l : List UInt8, List.map ((fun n : Int => UInt8.ofNat n.toNat) ∘ fun b : UInt8 => (b.toNat : Int)) l = l := by
    intro l
    induction l with
    | nil => rfl
    | cons a l ih => rw [List.map_cons, ih]; simp
  rw [this]
theorem bt_mk (l : List UInt8) (n : Nat) (h : n < l.length) : bt (mk l) (n : Int) = ((l[n]).toNat : Int) := by
  unfold bt
  rw [dif_pos (show (n : Int).toNat < (mk l).size by rw [mk_size]; omega)]
  rfl
/-- A fact that omega doesn't look into. -/
structure Hd (p : Prop) : Prop where
  mk :: (out : p)
theorem w64 {x : Int} (h0 : -9223372036854775808 ≤ x) (h1 : x ≤ 9223372036854775807) : wrap64 x = x := by
  unfold wrap64
  omega
theorem nm_u8 (n : Nat) (h : n < 256) : nm [UInt8.ofNat n] = [(n : Int)] := by
  simp [nm]
  omega
theorem tmod_nat (x d : Nat) : Int.tmod (x : Int) (d : Int) = ((x % d : Nat) : Int) := by
  rw [Int.tmod_eq_emod_of_nonneg (by omega)]
  exact (Int.natCast_emod x d).symm
theorem tdiv_nat (x d : Nat) : Int.tdiv (x : Int) (d : Int) = ((x / d : Nat) : Int) := by
  rw [Int.tdiv_eq_ediv_of_nonneg (by omega)]
  exact (Int.natCast_ediv x d).symm
theorem drop_cons (l : List UInt8) (i : Nat) (h : i < l.length) : l.drop i = l[i] :: l.drop (i + 1) := List.drop_eq_getElem_cons h
/-! ### numbers in bytes -/
def vt (n : Nat) : List UInt8 := if h : 127 < n then UInt8.ofNat (n % 128 + 128) :: vt (n / 128) else [UInt8.ofNat n]
termination_by n
decreasing_by omega
theorem vt_big {n : Nat} (h : 127 < n) : vt n = UInt8.ofNat (n % 128 + 128) :: vt (n / 128) := by rw [vt, dif_pos h]
theorem vt_small {n : Nat} (h : n ≤ 127) : vt n = [UInt8.ofNat n] := by rw [vt, dif_neg (by omega)]
theorem vt_len (d : Nat) : ∀ n : Nat, n < 128 * 128 ^ d → 1 ≤ (vt n).length ∧ (vt n).length ≤ d + 1 := by
  induction d with
  | zero => intro n h; rw [vt_small (by omega)]; simp
  | succ d ih =>
    intro n h
    by_cases hn : 127 < n
    · rw [vt_big hn]
      have := ih (n / 128) (by rw [Nat.pow_succ] at h; omega)
      simp only [List.length_cons]
      omega
    · rw [vt_small (by omega)]; simp
theorem vt_len8 {n : Nat} (h : n ≤ 9223372036854775807) : 1 ≤ (vt n).length ∧ (vt n).length ≤ 9 := vt_len 8 n (by omega)
theorem vt_len5 {n : Nat} (h : n ≤ 1000000000) : 1 ≤ (vt n).length ∧ (vt n).length ≤ 5 := vt_len 4 n (by omega)
/-- What VarText answers. -/
def varOf (n : Int) : ByteArray × Bool := if 0 ≤ n ∧ n ≤ 1000000000 then (mk (vt n.toNat), true) else (mk [], false)
/-- The number that stands at a list's head in bytes of seven bits, at most f of them; and how many bytes it has. -/
def leb : Nat → List UInt8 → Option (Nat × Nat)
  | 0, _ => none
  | _ + 1, [] => none
  | f + 1, b :: l => if b.toNat < 128 then some (b.toNat, 1) else match leb f l with
    | none => none
    | some (n, c) => some (b.toNat % 128 + 128 * n, c + 1)
theorem leb_facts : ∀ (f : Nat) (l : List UInt8) (n c : Nat), leb f l = some (n, c) → 1 ≤ c ∧ c ≤ f ∧ c ≤ l.length ∧ n < 128 ^ f
  | 0, _, _, _, h => by simp [leb] at h
  | f + 1, [], _, _, h => by simp [leb] at h
  | f + 1, b :: l, n, c, h => by
    rw [leb] at h
    have hp : 1 ≤ 128 ^ f := Nat.pow_pos (by omega)
    by_cases hb : b.toNat < 128
    · rw [if_pos hb] at h
      simp only [Option.some.injEq, Prod.mk.injEq] at h
      obtain ⟨rfl, rfl⟩ := h
      simp only [List.length_cons, Nat.pow_succ]
      omega
    · rw [if_neg hb] at h
      cases hr : leb f l with
      | none => rw [hr] at h; simp at h
      | some p =>
        obtain ⟨n', c'⟩ := p
        rw [hr] at h
        simp only [Option.some.injEq, Prod.mk.injEq] at h
        obtain ⟨rfl, rfl⟩ := h
        have := leb_facts f l n' c' hr
        simp only [List.length_cons, Nat.pow_succ]
        omega
/-- As long as its own text: just its own text. -/
theorem leb_text : ∀ (f : Nat) (l : List UInt8) (n c : Nat), leb f l = some (n, c) → (vt n).length = c → vt n = l.take c
  | 0, _, _, _, h, _ => by simp [leb] at h
  | f + 1, [], _, _, h, _ => by simp [leb] at h
  | f + 1, b :: l, n, c, h, hl => by
    rw [leb] at h
    have hb8 := b.toNat_lt
    by_cases hb : b.toNat < 128
    · rw [if_pos hb] at h
      simp only [Option.some.injEq, Prod.mk.injEq] at h
      obtain ⟨rfl, rfl⟩ := h
      rw [vt_small (by omega)]
      simp
    · rw [if_neg hb] at h
      cases hr : leb f l with
      | none => rw [hr] at h; simp at h
      | some p =>
        obtain ⟨n', c'⟩ := p
        rw [hr] at h
        simp only [Option.some.injEq, Prod.mk.injEq] at h
        obtain ⟨rfl, rfl⟩ := h
        have hf := leb_facts f l n' c' hr
        by_cases hn : 127 < b.toNat % 128 + 128 * n'
        · rw [vt_big hn] at hl ⊢
          have e1 : (b.toNat % 128 + 128 * n') / 128 = n' := by omega
          have e2 : (b.toNat % 128 + 128 * n') % 128 + 128 = b.toNat := by omega
          rw [e1] at hl
          rw [e1, e2]
          simp only [List.length_cons, Nat.add_right_cancel_iff] at hl
          rw [leb_text f l n' c' hr hl]
          simp
        · rw [vt_small (by omega)] at hl
          simp at hl
          omega
theorem leb_vt (d : Nat) : ∀ (n : Nat) (r : List UInt8), (vt n).length ≤ d → leb d (vt n ++ r) = some (n, (vt n).length) := by
  induction d with
  | zero => intro n r h; have := (vt_len n n (by have := Nat.lt_pow_self (n := n) (a := 128) (by omega); omega)).1; omega
  | succ d ih =>
    intro n r h
    by_cases hn : 127 < n
    · rw [vt_big hn] at h ⊢
      simp only [List.length_cons] at h
      have hb : (UInt8.ofNat (n % 128 + 128)).toNat = n % 128 + 128 := by rw [UInt8.toNat_ofNat']; omega
      rw [List.cons_append, leb, hb, if_neg (by omega), ih (n / 128) r (by omega)]
      simp only [List.length_cons]
      congr 2
      omega
    · rw [vt_small (by omega)]
      have hb : (UInt8.ofNat n).toNat = n := by rw [UInt8.toNat_ofNat']; omega
      rw [List.singleton_append, leb, hb, if_pos (by omega)]
      rfl
def rvFin (a : Nat) : Option (Nat × Nat) → Int × Int × Bool
  | none => (0, 0, false)
  | some (n, c) => if n ≤ 1000000000 ∧ (vt n).length = c then ((n : Int), ((a + c : Nat) : Int), true) else (0, 0, false)
/-- What ReadVar answers. -/
def rvOf (l : List UInt8) (a : Int) : Int × Int × Bool := if 0 ≤ a ∧ a ≤ l.length then rvFin a.toNat (leb 5 (l.drop a.toNat)) else (0, 0, false)
def pw (i : Nat) : Nat := 128 ^ i
theorem pw_succ (i : Nat) : pw (i + 1) = pw i * 128 := Nat.pow_succ _ _
theorem pw_pos (i : Nat) : 1 ≤ pw i := Nat.pow_pos (by omega)
theorem pw_le5 {i : Nat} (h : i ≤ 5) : 1 ≤ pw i ∧ pw i ≤ 34359738368 := ⟨pw_pos i, (Nat.pow_le_pow_right (by omega) h : 128 ^ i ≤ 128 ^ 5)⟩
theorem pw_le4 {i : Nat} (h : i ≤ 4) : pw i ≤ 268435456 := (Nat.pow_le_pow_right (by omega) h : 128 ^ i ≤ 128 ^ 4)
/-- Byte m's seven bits at place i. -/
def dg (m i : Nat) : Nat := m % 128 * pw i
theorem dg_le (m i : Nat) (h : i ≤ 4) : dg m i ≤ 34091302912 := (Nat.mul_le_mul (by omega) (pw_le4 h) : m % 128 * pw i ≤ 127 * 268435456)
theorem dg_lt {n0 m i : Nat} (h : n0 < pw i) : n0 + dg m i < pw (i + 1) := by
  have : dg m i ≤ 127 * pw i := Nat.mul_le_mul_right _ (by omega)
  rw [pw_succ]
  omega
/-- What is told behind i bytes. -/
def lebOn (n0 i : Nat) : Option (Nat × Nat) → Option (Nat × Nat)
  | none => none
  | some (n, c) => some (n0 + pw i * n, i + c)
theorem lebOn_step (f : Nat) (b : UInt8) (l : List UInt8) (n0 i : Nat) (hb : ¬ b.toNat < 128) : lebOn n0 i (leb (f + 1) (b :: l)) = lebOn (n0 + dg b.toNat i) (i + 1) (leb f l) := by
  rw [leb, if_neg hb]
  cases leb f l with
  | none => rfl
  | some p =>
    obtain ⟨n, c⟩ := p
    simp only [lebOn, pw_succ, dg]
    congr 2
    · rw [Nat.mul_add, Nat.mul_comm (pw i) (b.toNat % 128), Nat.mul_assoc, Nat.add_assoc]
    · omega
theorem lebOn_last (f : Nat) (b : UInt8) (l : List UInt8) (n0 i : Nat) (hb : b.toNat < 128) : lebOn n0 i (leb (f + 1) (b :: l)) = some (n0 + dg b.toNat i, i + 1) := by
  rw [leb, if_pos hb]
  simp only [lebOn, dg]
  rw [Nat.mod_eq_of_lt hb, Nat.mul_comm]
theorem lebOn_zero (x : Option (Nat × Nat)) : lebOn 0 0 x = x := by
  cases x with
  | none => rfl
  | some p => obtain ⟨n, c⟩ := p; simp [lebOn, pw]
/-- What ReadShort answers. -/
def rsFin (l : List UInt8) (r : Int × Int × Bool) : ByteArray × Int × Bool :=
  if r.2.2 = true ∧ r.1 ≤ 20000 ∧ r.1 ≤ (l.length : Int) - r.2.1 then (mk ((l.drop r.2.1.toNat).take r.1.toNat), r.2.1 + r.1, true) else (mk [], 0, false)
def rsOf (l : List UInt8) (a : Int) : ByteArray × Int × Bool := rsFin l (rvOf l a)
theorem rvOf_facts (l : List UInt8) (a : Int) (h : (rvOf l a).2.2 = true) : ∃ n c at_ : Nat, a = at_ ∧ rvOf l a = ((n : Int), ((at_ + c : Nat) : Int), true) ∧ 1 ≤ c ∧ c ≤ 5 ∧ at_ + c ≤ l.length ∧ n ≤ 1000000000 ∧ leb 5 (l.drop at_) = some (n, c) ∧ (vt n).length = c := by
  unfold rvOf at h ⊢
  by_cases hc : 0 ≤ a ∧ a ≤ l.length
  · rw [if_pos hc] at h ⊢
    obtain ⟨m, rfl⟩ := Int.eq_ofNat_of_zero_le hc.1
    rw [Int.toNat_natCast] at h ⊢
    cases hl : leb 5 (l.drop m) with
    | none => rw [hl] at h; simp [rvFin] at h
    | some p =>
      obtain ⟨n, c⟩ := p
      have hf := leb_facts 5 _ n c hl
      rw [List.length_drop] at hf
      rw [hl] at h
      unfold rvFin at h ⊢
      dsimp only at h ⊢
      by_cases hk : n ≤ 1000000000 ∧ (vt n).length = c
      · rw [if_pos hk]
        exact ⟨n, c, m, rfl, rfl, hf.1, hf.2.1, by omega, hk.1, hl, hk.2⟩
      · rw [if_neg hk] at h
        simp at h
  · rw [if_neg hc] at h
    simp at h
/-- C holds at i, i + 1, .., d of them. -/
def allF (C : Nat → Bool) : Nat → Nat → Bool
  | 0, _ => true
  | d + 1, i => C i && allF C d (i + 1)
theorem allF_congr {C D : Nat → Bool} (d : Nat) : ∀ i, (∀ j, i ≤ j → j < i + d → C j = D j) → allF C d i = allF D d i := by
  induction d with
  | zero => intro i h; rfl
  | succ d ih =>
    intro i h
    simp only [allF]
    rw [h i (by omega) (by omega), ih (i + 1) (fun j h1 h2 => h j (by omega) (by omega))]
theorem allF_true {C : Nat → Bool} (d : Nat) : ∀ i, allF C d i = true ↔ ∀ j, i ≤ j → j < i + d → C j = true := by
  induction d with
  | zero => intro i; simp only [allF, true_iff]; intro j h1 h2; omega
  | succ d ih =>
    intro i
    simp only [allF, Bool.and_eq_true, ih]
    constructor
    · rintro ⟨h1, h2⟩ j h3 h4
      by_cases e : j = i
      · rw [e]; exact h1
      · exact h2 j (by omega) (by omega)
    · intro h
      exact ⟨h i (by omega) (by omega), fun j h1 h2 => h j (by omega) (by omega)⟩
theorem ev_now {α : Type} {g : Nat → Option α} {r : α} (h : ∀ k, g (k + 1) = some r) : Ev g r :=
  ⟨1, fun k hk => by obtain ⟨m, rfl⟩ : ∃ m, k = m + 1 := ⟨k - 1, by omega⟩; exact h m⟩
theorem rd_nat (l : List Int) (n : Nat) : rd l (n : Int) = l.getD n 0 := rfl
/-- Place i of the list is in lo .. hi, and above the one ahead. -/
def riseC (l : List Int) (lo hi : Int) (i : Nat) : Bool := decide (lo ≤ l.getD i 0 ∧ l.getD i 0 ≤ hi) && (decide (i = 0) || decide (l.getD (i - 1) 0 < l.getD i 0))
def confOf (l : List Int) : Bool := allF (riseC l 1 4) l.length 0 && decide (1 ≤ (l.length : Int) ∧ (l.length : Int) ≤ 4)
/-- Place i of the segments. -/
def manC (l : List Int) (next : Int) (i : Nat) : Bool := decide (0 ≤ l.getD i 0 ∧ l.getD i 0 ≤ 999) && decide (¬ l.getD i 0 ≥ next) && (decide (i = 0) || decide (¬ l.getD (i - 1) 0 ≥ l.getD i 0))
def manOf (l : List Int) (next base bt : Int) (c : List Int) : Bool :=
  allF (manC l next) l.length 0 && (decide (1 ≤ (l.length : Int) ∧ (l.length : Int) ≤ 8) && (decide (next ≤ 1000) && (decide (0 ≤ base ∧ base ≤ 100000) && (decide (0 ≤ bt ∧ bt ≤ 100000) && confOf c))))
/-! ### the check sum -/
def crcBit (x : Nat) : Nat := if x % 2 = 1 then (x / 2) ^^^ 3558460437 else x / 2
def crcBits : Nat → Nat → Nat
  | 0, x => x
  | n + 1, x => crcBits n (crcBit x)
def crcL (x : Nat) (l : List UInt8) : Nat := l.foldl (fun x b => crcBits 8 (x ^^^ b.toNat)) x
theorem xor_lt32 {a b : Nat} (ha : a < 4294967296) (hb : b < 4294967296) : a ^^^ b < 4294967296 := Nat.xor_lt_two_pow (n := 32) ha hb
theorem crcBit_lt {x : Nat} (h : x < 4294967296) : crcBit x < 4294967296 := by
  unfold crcBit
  split
  · exact xor_lt32 (by omega) (by omega)
  · omega
theorem crcBits_lt : ∀ (n : Nat) {x : Nat}, x < 4294967296 → crcBits n x < 4294967296
  | 0, _, h => h
  | n + 1, _, h => crcBits_lt n (crcBit_lt h)
theorem crcL_cons (x : Nat) (b : UInt8) (l : List UInt8) : crcL x (b :: l) = crcL (crcBits 8 (x ^^^ b.toNat)) l := rfl
theorem crcL_lt : ∀ (l : List UInt8) {x : Nat}, x < 4294967296 → crcL x l < 4294967296
  | [], _, h => h
  | b :: l, _, h => crcL_lt l (crcBits_lt 8 (xor_lt32 h (by have := b.toNat_lt; omega)))
theorem crcL_append (x : Nat) (a b : List UInt8) : crcL x (a ++ b) = crcL (crcL x a) b := by simp [crcL, List.foldl_append]
def crc (l : List UInt8) : Nat := crcL 4294967295 l
theorem crc_lt (l : List UInt8) : crc l < 4294967296 := crcL_lt l (by omega)
/-- The sum in four bytes, the highest first. -/
def four (n : Nat) : List UInt8 := [UInt8.ofNat (n / 16777216 % 256), UInt8.ofNat (n / 65536 % 256), UInt8.ofNat (n / 256 % 256), UInt8.ofNat (n % 256)]
theorem four_nm (n : Nat) : ([((n : Int) / 16777216) % 256, ((n : Int) / 65536) % 256, ((n : Int) / 256) % 256, ((n : Int)) % 256] : List Int) = nm (four n) := by
  have e : ∀ m : Nat, (((UInt8.ofNat (m % 256)).toNat : Nat) : Int) = (m : Int) % 256 := by
    intro m
    rw [UInt8.toNat_ofNat']
    omega
  simp only [nm, four, List.map_cons, List.map_nil, e]
  congr
def sealOf (l : List UInt8) : ByteArray × Bool := if l.length ≤ 20000 then (mk (l ++ four (crc l)), true) else (mk [], false)
theorem four_len (n : Nat) : (four n).length = 4 := rfl
/-- The VarTexts of numbers, one behind the other. -/
def vts : List Int → List UInt8
  | [] => []
  | x :: l => vt x.toNat ++ vts l
theorem vts_append (a b : List Int) : vts (a ++ b) = vts a ++ vts b := by
  induction a with
  | nil => rfl
  | cons x a ih => simp only [List.cons_append, vts, ih, List.append_assoc]
theorem vts_len (l : List Int) (h : ∀ x ∈ l, 0 ≤ x ∧ x ≤ 1000000000) : (vts l).length ≤ 5 * l.length := by
  induction l with
  | nil => simp [vts]
  | cons x l ih =>
    have h1 := h x List.mem_cons_self
    have h2 := vt_len5 (n := x.toNat) (by omega)
    have h3 := ih (fun y hy => h y (List.mem_cons_of_mem _ hy))
    simp only [vts, List.length_append, List.length_cons]
    omega
def manT (l : List Int) (next base bt : Int) (c : List Int) : List UInt8 := vt l.length ++ vts l ++ vt next.toNat ++ vt base.toNat ++ vt bt.toNat ++ vt c.length ++ vts c
def manTextOf (l : List Int) (next base bt : Int) (c : List Int) : ByteArray × Bool := if manOf l next base bt c = true then sealOf (manT l next base bt c) else (mk [], false)
theorem allF_get {C : Nat → Bool} {n : Nat} (h : allF C n 0 = true) (i : Nat) (hi : i < n) : C i = true := (allF_true _ _).1 h i (by omega) (by omega)
theorem confOf_small {c : List Int} (h : confOf c = true) : 1 ≤ c.length ∧ c.length ≤ 4 ∧ ∀ x ∈ c, 1 ≤ x ∧ x ≤ 4 := by
  unfold confOf at h
  simp only [Bool.and_eq_true, decide_eq_true_eq] at h
  refine ⟨by omega, by omega, fun x hx => ?_⟩
  obtain ⟨i, hi, rfl⟩ := List.getElem_of_mem hx
  have := allF_get h.1 i hi
  unfold riseC at this
  simp only [Bool.and_eq_true, decide_eq_true_eq] at this
  rw [show c.getD i 0 = c[i] by simp [List.getD_eq_getElem?_getD, List.getElem?_eq_getElem hi]] at this
  omega
theorem manOf_small {l : List Int} {next base bt : Int} {c : List Int} (h : manOf l next base bt c = true) :
    1 ≤ l.length ∧ l.length ≤ 8 ∧ (∀ x ∈ l, 0 ≤ x ∧ x ≤ 999) ∧ 0 ≤ next ∧ next ≤ 1000 ∧ 0 ≤ base ∧ base ≤ 100000 ∧ 0 ≤ bt ∧ bt ≤ 100000 ∧ 1 ≤ c.length ∧ c.length ≤ 4 ∧ ∀ x ∈ c, 1 ≤ x ∧ x ≤ 4 := by
  unfold manOf at h
  simp only [Bool.and_eq_true, decide_eq_true_eq] at h
  obtain ⟨h0, h1, h2, h3, h4, h5⟩ := h
  obtain ⟨h6, h7, h8⟩ := confOf_small h5
  have hx : ∀ i (hi : i < l.length), 0 ≤ l[i] ∧ l[i] ≤ 999 ∧ l[i] < next := by
    intro i hi
    have := allF_get h0 i hi
    unfold manC at this
    simp only [Bool.and_eq_true, decide_eq_true_eq] at this
    rw [show l.getD i 0 = l[i] by simp [List.getD_eq_getElem?_getD, List.getElem?_eq_getElem hi]] at this
    omega
  have hn := hx 0 (by omega)
  refine ⟨by omega, by omega, fun x hx' => ?_, by omega, by omega, by omega, by omega, by omega, by omega, h6, h7, h8⟩
  obtain ⟨i, hi, rfl⟩ := List.getElem_of_mem hx'
  have := hx i hi
  omega

def unsealOf (l : List UInt8) : ByteArray × Bool :=
  if 4 ≤ l.length ∧ l.length ≤ 20004 ∧ l.drop (l.length - 4) = four (crc (l.take (l.length - 4))) then (mk (l.take (l.length - 4)), true) else (mk [], false)
theorem unseal_w (l : List UInt8) (h : 4 ≤ l.length) (hs : l.length ≤ 140737488351232) : wrap64 (((mk l).size : Int) - 4) = ((l.length - 4 : Nat) : Int) := by
  rw [mk_size, w64 (by omega) (by omega)]
  omega
theorem unseal_cut (l : List UInt8) (n : Nat) : (mk l).extract 0 ((n : Int)).toNat = mk (l.take n) := by
  rw [mk_extract]
  simp
theorem unseal_end (l : List UInt8) (n : Nat) (h : n ≤ l.length) : (mk l).extract ((n : Int)).toNat (mk l).size = mk (l.drop n) := by
  rw [mk_extract, mk_size, Int.toNat_natCast, List.take_of_length_le (by simp)]
/-- x stands in l at place a. -/
def at_ (l : List UInt8) (a : Nat) (x : List UInt8) : Prop := (l.drop a).take x.length = x ∧ a + x.length ≤ l.length
theorem at_app {l : List UInt8} {a : Nat} {x y : List UInt8} (h1 : at_ l a x) (h2 : at_ l (a + x.length) y) : at_ l a (x ++ y) := by
  obtain ⟨h1, h3⟩ := h1
  obtain ⟨h2, h4⟩ := h2
  refine ⟨?_, by rw [List.length_append]; omega⟩
  rw [List.length_append, List.take_add, h1, List.drop_drop, h2]
theorem at_nil {l : List UInt8} {a : Nat} (h : a ≤ l.length) : at_ l a [] := ⟨by simp, by simpa using h⟩
/-- One number read. -/
def nmOf (l : List UInt8) (a : Nat) (b : Bool) : Int × Nat × Bool := if b = true then (0, a, true) else if (rvOf l (a : Int)).2.2 = true then ((rvOf l (a : Int)).1, (rvOf l (a : Int)).2.1.toNat, false) else (0, a, true)
theorem nmOf_bad (l : List UInt8) (a : Nat) : nmOf l a true = (0, a, true) := rfl
theorem nmOf_ok (l : List UInt8) (a : Nat) (b : Bool) (h : (nmOf l a b).2.2 = false) : b = false ∧ ∃ n : Nat, (nmOf l a b).1 = n ∧ n ≤ 1000000000 ∧ (nmOf l a b).2.1 = a + (vt n).length ∧ at_ l a (vt n) ∧ 1 ≤ (vt n).length := by
  cases b with
  | true => exact absurd h (by simp [nmOf])
  | false =>
    refine ⟨rfl, ?_⟩
    by_cases hr : (rvOf l (a : Int)).2.2 = true
    · obtain ⟨n, c, at_', h1, h2, h3, h4, h5, h6, h7, h8⟩ := rvOf_facts l (a : Int) hr
      obtain rfl : a = at_' := by omega
      have h9 := leb_text 5 _ n c h7 h8
      refine ⟨n, ?_, h6, ?_, ⟨?_, by omega⟩, by omega⟩
      · unfold nmOf
        rw [if_neg (by simp), if_pos hr, h2]
      · unfold nmOf
        rw [if_neg (by simp), if_pos hr, h2, h8]
        exact Int.toNat_natCast _
      · rw [h8, ← h9]
    · unfold nmOf at h
      rw [if_neg (by simp), if_neg hr] at h
      exact absurd h (by simp)
theorem nmOf_rng (l : List UInt8) (a : Nat) (b : Bool) (ha : a ≤ l.length) : ∃ n : Nat, (nmOf l a b).1 = n ∧ n ≤ 1000000000 ∧ (nmOf l a b).2.1 ≤ l.length := by
  by_cases h : (nmOf l a b).2.2 = false
  · obtain ⟨_, n, h1, h2, h3, h4, _⟩ := nmOf_ok l a b h
    exact ⟨n, h1, h2, by rw [h3]; exact h4.2⟩
  · unfold nmOf at h ⊢
    by_cases hb : b = true
    · rw [if_pos hb]
      exact ⟨0, rfl, by omega, ha⟩
    · rw [if_neg hb] at h ⊢
      by_cases hr : (rvOf l (a : Int)).2.2 = true
      · rw [if_pos hr] at h
        exact absurd rfl h
      · rw [if_neg hr]
        exact ⟨0, rfl, by omega, ha⟩
/-- At most so many numbers read, one behind the other. -/
def rdn (l : List UInt8) : Nat → Nat → Bool → List Int × Nat × Bool
  | 0, a, b => ([], a, b)
  | c + 1, a, b => if b = true then ([], a, b) else ((nmOf l a b).1 :: (rdn l c (nmOf l a b).2.1 (nmOf l a b).2.2).1, (rdn l c (nmOf l a b).2.1 (nmOf l a b).2.2).2)
theorem rdn_bad (l : List UInt8) (c a : Nat) : rdn l c a true = ([], a, true) := by
  cases c with
  | zero => rfl
  | succ c => rw [rdn, if_pos rfl]
theorem rdn_len (l : List UInt8) : ∀ (c a : Nat) (b : Bool), (rdn l c a b).1.length ≤ c
  | 0, a, b => Nat.le_refl _
  | c + 1, a, b => by
    rw [rdn]
    by_cases hb : b = true
    · rw [if_pos hb]
      exact Nat.zero_le _
    · rw [if_neg hb]
      have := rdn_len l c (nmOf l a b).2.1 (nmOf l a b).2.2
      simp only [List.length_cons]
      omega
theorem rdn_rng (l : List UInt8) : ∀ (c a : Nat) (b : Bool), a ≤ l.length → (rdn l c a b).2.1 ≤ l.length
  | 0, a, b, h => h
  | c + 1, a, b, h => by
    rw [rdn]
    by_cases hb : b = true
    · rw [if_pos hb]
      exact h
    · rw [if_neg hb]
      obtain ⟨_, _, _, h2⟩ := nmOf_rng l a b h
      exact rdn_rng l c _ _ h2
theorem rdn_ok (l : List UInt8) : ∀ (c a : Nat) (b : Bool), a ≤ l.length → (rdn l c a b).2.2 = false → b = false ∧ (rdn l c a b).1.length = c ∧ (∀ x ∈ (rdn l c a b).1, 0 ≤ x ∧ x ≤ 1000000000) ∧ (rdn l c a b).2.1 = a + (vts (rdn l c a b).1).length ∧ at_ l a (vts (rdn l c a b).1)
  | 0, a, b, h, hb => ⟨hb, rfl, fun x hx => (by cases hx), rfl, at_nil h⟩
  | c + 1, a, b, h, hb => by
    rw [rdn] at hb ⊢
    by_cases h1 : b = true
    · rw [if_pos h1] at hb
      rw [h1] at hb
      cases hb
    · rw [if_neg h1] at hb ⊢
      have hrng := nmOf_rng l a b h
      obtain ⟨_, _, _, h2⟩ := hrng
      obtain ⟨g1, g2, g3, g4, g5⟩ := rdn_ok l c _ _ h2 hb
      obtain ⟨k1, n, k2, k3, k4, k5, _⟩ := nmOf_ok l a b g1
      refine ⟨k1, by simp only [List.length_cons, g2], fun x hx => ?_, ?_, ?_⟩
      · rcases List.mem_cons.1 hx with rfl | hx
        · rw [k2]
          omega
        · exact g3 x hx
      · simp only [vts]
        rw [g4, k4, k2, Int.toNat_natCast, List.length_append]
        omega
      · simp only [vts]
        rw [k2, Int.toNat_natCast]
        exact at_app k5 (by rw [← k4]; exact g5)

theorem rdn_small (l : List UInt8) (hl : l.length ≤ 20000) : ∀ (c a : Nat) (b : Bool), a ≤ l.length → (rdn l c a b).1.length ≤ 20000 ∨ (rdn l c a b).1.length ≤ 1048576 := by
  have key : ∀ (c a : Nat) (b : Bool), a ≤ l.length → (rdn l c a b).1.length + a ≤ l.length + 1 := by
    intro c
    induction c with
    | zero => intro a b h; simp only [rdn, List.length_nil]; omega
    | succ c ih =>
      intro a b h
      rw [rdn]
      by_cases hb : b = true
      · rw [if_pos hb]
        simp only [List.length_nil]
        omega
      · rw [if_neg hb]
        obtain ⟨n, h1, h2, h3⟩ := nmOf_rng l a b h
        by_cases h4 : (nmOf l a b).2.2 = false
        · obtain ⟨_, m, k1, k2, k3, k4, k5⟩ := nmOf_ok l a b h4
          have := ih (nmOf l a b).2.1 (nmOf l a b).2.2 h3
          simp only [List.length_cons]
          omega
        · have h5 : (nmOf l a b).2.2 = true := by
            cases h6 : (nmOf l a b).2.2 with
            | true => rfl
            | false => exact absurd h6 h4
          rw [h5, rdn_bad]
          simp only [List.length_cons, List.length_nil]
          omega
  intro c a b h
  have := key c a b h
  omega

/-- A manifest's parts, read; f and g: how many are read of so many. -/
structure Mr where
  segs : List Int
  n1 : Int
  n2 : Int
  n3 : Int
  conf : List Int
  a : Nat
  b : Bool
  c0 : Nat
  c4 : Nat
def rdTail (l : List UInt8) (q0 : List Int × Nat × Bool) (g : Nat → Nat) (c0 : Nat) : Mr :=
  let r1 := nmOf l q0.2.1 q0.2.2
  let r2 := nmOf l r1.2.1 r1.2.2
  let r3 := nmOf l r2.2.1 r2.2.2
  let r4 := nmOf l r3.2.1 r3.2.2
  let q4 := rdn l (g r4.1.toNat) r4.2.1 r4.2.2
  ⟨q0.1, r1.1, r2.1, r3.1, q4.1, q4.2.1, q4.2.2, c0, r4.1.toNat⟩
def rdMan (l : List UInt8) (b : Bool) (f g : Nat → Nat) : Mr :=
  let r0 := nmOf l 0 b
  let q0 := rdn l (f r0.1.toNat) r0.2.1 r0.2.2
  rdTail l q0 g r0.1.toNat
/-- All was there: the counts, and the text. -/
theorem rdMan_ok (l : List UInt8) (b : Bool) (f g : Nat → Nat) (h : (rdMan l b f g).b = false) : (rdMan l b f g).segs.length = f (rdMan l b f g).c0 ∧ (rdMan l b f g).conf.length = g (rdMan l b f g).c4 ∧
    (f (rdMan l b f g).c0 = (rdMan l b f g).c0 → g (rdMan l b f g).c4 = (rdMan l b f g).c4 → (rdMan l b f g).a = (manT (rdMan l b f g).segs (rdMan l b f g).n1 (rdMan l b f g).n2 (rdMan l b f g).n3 (rdMan l b f g).conf).length ∧
      at_ l 0 (manT (rdMan l b f g).segs (rdMan l b f g).n1 (rdMan l b f g).n2 (rdMan l b f g).n3 (rdMan l b f g).conf)) := by
  unfold rdMan rdTail at h ⊢
  dsimp only at h ⊢
  obtain ⟨n0, e0, _, l0⟩ := nmOf_rng l 0 b (Nat.zero_le _)
  generalize hr0 : nmOf l 0 b = r0 at *
  have lq0 := rdn_rng l (f r0.1.toNat) r0.2.1 r0.2.2 l0
  generalize hq0 : rdn l (f r0.1.toNat) r0.2.1 r0.2.2 = q0 at *
  obtain ⟨n1, e1, _, l1⟩ := nmOf_rng l q0.2.1 q0.2.2 lq0
  generalize hr1 : nmOf l q0.2.1 q0.2.2 = r1 at *
  obtain ⟨n2, e2, _, l2⟩ := nmOf_rng l r1.2.1 r1.2.2 l1
  generalize hr2 : nmOf l r1.2.1 r1.2.2 = r2 at *
  obtain ⟨n3, e3, _, l3⟩ := nmOf_rng l r2.2.1 r2.2.2 l2
  generalize hr3 : nmOf l r2.2.1 r2.2.2 = r3 at *
  obtain ⟨n4, e4, _, l4⟩ := nmOf_rng l r3.2.1 r3.2.2 l3
  generalize hr4 : nmOf l r3.2.1 r3.2.2 = r4 at *
  obtain ⟨b4, g1, g2, g3, g4⟩ := rdn_ok l (g r4.1.toNat) r4.2.1 r4.2.2 l4 h
  obtain ⟨b3, m4, k1, k2, k3, k4, _⟩ := nmOf_ok l r3.2.1 r3.2.2 (by rw [hr4]; exact b4)
  obtain ⟨b2, m3, k5, k6, k7, k8, _⟩ := nmOf_ok l r2.2.1 r2.2.2 (by rw [hr3]; exact b3)
  obtain ⟨b1, m2, k9, j1, j2, j3, _⟩ := nmOf_ok l r1.2.1 r1.2.2 (by rw [hr2]; exact b2)
  obtain ⟨b0, m1, j4, j5, j6, j7, _⟩ := nmOf_ok l q0.2.1 q0.2.2 (by rw [hr1]; exact b1)
  obtain ⟨bb, i1, i2, i3, i4⟩ := rdn_ok l (f r0.1.toNat) r0.2.1 r0.2.2 l0 (by rw [hq0]; exact b0)
  obtain ⟨_, m0, i5, i6, i7, i8, _⟩ := nmOf_ok l 0 b (by rw [hr0]; exact bb)
  rw [hr4] at k1 k3
  rw [hr3] at k5 k7
  rw [hr2] at k9 j2
  rw [hr1] at j4 j6
  rw [hq0] at i1 i2 i3 i4
  rw [hr0] at i5 i7
  refine ⟨i1, g1, fun hf hg => ?_⟩
  have hs0 : q0.1.length = m0 := by rw [i1, hf, i5, Int.toNat_natCast]
  have hs4 : (rdn l (g r4.1.toNat) r4.2.1 r4.2.2).1.length = m4 := by rw [g1, hg, k1, Int.toNat_natCast]
  generalize hq4 : rdn l (g r4.1.toNat) r4.2.1 r4.2.2 = q4 at *
  have hm : manT q0.1 r1.1 r2.1 r3.1 q4.1 = vt m0 ++ vts q0.1 ++ vt m1 ++ vt m2 ++ vt m3 ++ vt m4 ++ vts q4.1 := by
    unfold manT
    rw [hs0, hs4, j4, k9, k5, Int.toNat_natCast, Int.toNat_natCast, Int.toNat_natCast]
  rw [hm]
  refine ⟨?_, ?_⟩
  · rw [g3, k3, k7, j2, j6, i3, i7]
    simp only [List.length_append]
    omega
  · have p1 := at_app i8 (by rw [← i7]; exact i4)
    have p2 := at_app p1 (y := vt m1) (by rw [List.length_append, ← Nat.add_assoc, ← i7, ← i3]; exact j7)
    have p3 := at_app p2 (y := vt m2) (by rw [List.length_append, List.length_append, ← Nat.add_assoc, ← Nat.add_assoc, ← i7, ← i3, ← j6]; exact j3)
    have p4 := at_app p3 (y := vt m3) (by rw [List.length_append, List.length_append, List.length_append, ← Nat.add_assoc, ← Nat.add_assoc, ← Nat.add_assoc, ← i7, ← i3, ← j6, ← j2]; exact k8)
    have p5 := at_app p4 (y := vt m4) (by rw [List.length_append, List.length_append, List.length_append, List.length_append, ← Nat.add_assoc, ← Nat.add_assoc, ← Nat.add_assoc, ← Nat.add_assoc, ← i7, ← i3, ← j6, ← j2, ← k7]; exact k4)
    exact at_app p5 (by rw [List.length_append, List.length_append, List.length_append, List.length_append, List.length_append, ← Nat.add_assoc, ← Nat.add_assoc, ← Nat.add_assoc, ← Nat.add_assoc, ← Nat.add_assoc, ← i7, ← i3, ← j6, ← j2, ← k7, ← k3]; exact g4)
/-- The inner text of a sealed one. -/
def unsL (t : List UInt8) : List UInt8 × Bool := if 4 ≤ t.length ∧ t.length ≤ 20004 ∧ t.drop (t.length - 4) = four (crc (t.take (t.length - 4))) then (t.take (t.length - 4), true) else ([], false)
theorem unsealOf_L (t : List UInt8) : unsealOf t = (mk (unsL t).1, (unsL t).2) := by
  unfold unsealOf unsL
  by_cases h : 4 ≤ t.length ∧ t.length ≤ 20004 ∧ t.drop (t.length - 4) = four (crc (t.take (t.length - 4)))
  · rw [if_pos h, if_pos h]
  · rw [if_neg h, if_neg h]
theorem unsL_len (t : List UInt8) : (unsL t).1.length ≤ 20000 := by
  unfold unsL
  by_cases h : 4 ≤ t.length ∧ t.length ≤ 20004 ∧ t.drop (t.length - 4) = four (crc (t.take (t.length - 4)))
  · rw [if_pos h]
    simp
    omega
  · rw [if_neg h]
    simp
theorem unsL_ok (t : List UInt8) (h : (unsL t).2 = true) : t = (unsL t).1 ++ four (crc (unsL t).1) := by
  unfold unsL at h ⊢
  by_cases hc : 4 ≤ t.length ∧ t.length ≤ 20004 ∧ t.drop (t.length - 4) = four (crc (t.take (t.length - 4)))
  · rw [if_pos hc]
    conv => lhs; rw [← List.take_append_drop (t.length - 4) t, hc.2.2]
  · rw [if_neg hc] at h
    exact absurd h (by simp)
abbrev ManRes := List Int × Int × Int × Int × List Int × Bool
def manNo : ManRes := (([] : List Int), 0, 0, 0, ([] : List Int), false)
def specFin (t : List UInt8) (m : Mr) : ManRes := if m.b = true then manNo else if (manTextOf m.segs m.n1 m.n2 m.n3 m.conf).2 = true ∧ (manTextOf m.segs m.n1 m.n2 m.n3 m.conf).1 = mk t then (m.segs, m.n1, m.n2, m.n3, m.conf, true) else manNo
def implFin (l : List UInt8) (m : Mr) : ManRes := if m.b = false ∧ m.a = l.length then (if manOf m.segs m.n1 m.n2 m.n3 m.conf = true then (m.segs, m.n1, m.n2, m.n3, m.conf, true) else manNo) else manNo
def specMan (t : List UInt8) : ManRes := specFin t (rdMan (unsL t).1 (!(unsL t).2) (fun n => min n 9) (fun n => min n 5))
def implMan (t : List UInt8) : ManRes := if (unsL t).2 = true then implFin (unsL t).1 (rdMan (unsL t).1 false id id) else manNo
theorem manT_len {l : List Int} {next base bt : Int} {c : List Int} (h : manOf l next base bt c = true) : (manT l next base bt c).length ≤ 200 := by
  obtain ⟨a1, a2, a3, a4, a5, a6, a7, a8, a9, b1, b2, b3⟩ := manOf_small h
  have h1 := vt_len5 (n := l.length) (by omega)
  have h2 := vt_len5 (n := next.toNat) (by omega)
  have h3 := vt_len5 (n := base.toNat) (by omega)
  have h4 := vt_len5 (n := bt.toNat) (by omega)
  have h5 := vt_len5 (n := c.length) (by omega)
  have h6 := vts_len l (fun x hx => by have := a3 x hx; omega)
  have h7 := vts_len c (fun x hx => by have := b3 x hx; omega)
  unfold manT
  simp only [List.length_append]
  omega
theorem rdMan_true (l : List UInt8) (f g : Nat → Nat) : (rdMan l true f g).b = true := by
  unfold rdMan rdTail
  simp only [nmOf_bad, rdn_bad]
theorem man_same (t : List UInt8) : specMan t = implMan t := by
  unfold specMan implMan
  by_cases hu : (unsL t).2 = true
  · rw [if_pos hu, hu]
    have ht := unsL_ok t hu
    generalize (unsL t).1 = l at *
    simp only [Bool.not_true]
    by_cases hc : (rdMan l false (fun n => min n 9) (fun n => min n 5)).c0 ≤ 9 ∧ (rdMan l false (fun n => min n 9) (fun n => min n 5)).c4 ≤ 5
    · have hsame : rdMan l false (fun n => min n 9) (fun n => min n 5) = rdMan l false id id := by
        unfold rdMan rdTail at hc ⊢
        dsimp only at hc ⊢
        obtain ⟨h1, h2⟩ := hc
        rw [Nat.min_eq_left h1] at h2 ⊢
        rw [Nat.min_eq_left h2]
        rfl
      rw [hsame]
      have hok := rdMan_ok l false id id
      generalize rdMan l false id id = m at *
      unfold specFin implFin
      by_cases hb : m.b = true
      · rw [if_pos hb, if_neg (by rw [hb]; simp)]
      · have hb' : m.b = false := Bool.eq_false_iff.2 hb
        obtain ⟨_, _, h3⟩ := hok hb'
        obtain ⟨h4, h5⟩ := h3 rfl rfl
        rw [if_neg hb]
        by_cases hm : manOf m.segs m.n1 m.n2 m.n3 m.conf = true
        · have hl := manT_len hm
          have e1 : manTextOf m.segs m.n1 m.n2 m.n3 m.conf = (mk (manT m.segs m.n1 m.n2 m.n3 m.conf ++ four (crc (manT m.segs m.n1 m.n2 m.n3 m.conf))), true) := by
            unfold manTextOf sealOf
            rw [if_pos hm, if_pos (by omega)]
          rw [e1]
          generalize manT m.segs m.n1 m.n2 m.n3 m.conf = x at *
          by_cases ha : m.a = l.length
          · have hx : l = x := by
              have h6 := h5.1
              rw [List.drop_zero, List.take_of_length_le (by omega)] at h6
              exact h6
            rw [if_pos ⟨rfl, by rw [ht, hx]⟩, if_pos ⟨hb', ha⟩, if_pos hm]
          · rw [if_neg (fun h => ha ?_), if_neg (fun h => ha h.2)]
            have h7 := congrArg List.length (mk_inj h.2)
            rw [ht, List.length_append, List.length_append, four_len, four_len] at h7
            omega
        · rw [if_neg (fun h => hm ?_)]
          · by_cases ha : m.b = false ∧ m.a = l.length
            · rw [if_pos ha, if_neg hm]
            · rw [if_neg ha]
          · unfold manTextOf at h
            by_cases hm2 : manOf m.segs m.n1 m.n2 m.n3 m.conf = true
            · exact hm2
            · rw [if_neg hm2] at h
              exact absurd h.1 (by simp)
    · have hno : ∀ m : Mr, (m.b = false → ¬ m.segs.length ≤ 8 ∨ ¬ m.conf.length ≤ 4) → specFin t m = manNo ∧ implFin l m = manNo := by
        intro m h
        unfold specFin implFin
        by_cases hb : m.b = true
        · rw [if_pos hb, if_neg (by rw [hb]; simp)]
          exact ⟨rfl, rfl⟩
        · have hb' : m.b = false := Bool.eq_false_iff.2 hb
          have hm : ¬ manOf m.segs m.n1 m.n2 m.n3 m.conf = true := fun hm => by
            obtain ⟨a1, a2, a3, a4, a5, a6, a7, a8, a9, b1, b2, b3⟩ := manOf_small hm
            rcases h hb' with h | h <;> omega
          rw [if_neg hb, if_neg (fun h => by
            unfold manTextOf at h
            rw [if_neg hm] at h
            exact absurd h.1 (by simp))]
          refine ⟨rfl, ?_⟩
          by_cases ha : m.b = false ∧ m.a = l.length
          · rw [if_pos ha, if_neg hm]
          · rw [if_neg ha]
      have hc0 : (rdMan l false (fun n => min n 9) (fun n => min n 5)).c0 = (rdMan l false id id).c0 := rfl
      have hc4 : (rdMan l false (fun n => min n 9) (fun n => min n 5)).c0 ≤ 9 → (rdMan l false (fun n => min n 9) (fun n => min n 5)).c4 = (rdMan l false id id).c4 := by
        unfold rdMan rdTail
        dsimp only
        intro h
        rw [Nat.min_eq_left h]
        rfl
      rw [(hno _ fun hb => ?_).1, (hno _ fun hb => ?_).2]
      · obtain ⟨h1, h2, _⟩ := rdMan_ok l false id id hb
        simp only [id] at h1 h2
        by_cases h3 : (rdMan l false (fun n => min n 9) (fun n => min n 5)).c0 ≤ 9
        · have h4 := hc4 h3
          exact .inr (by have := fun h5 => hc ⟨h3, h5⟩; omega)
        · exact .inl (by rw [hc0] at h3; omega)
      · obtain ⟨h1, h2, _⟩ := rdMan_ok l false _ _ hb
        by_cases h3 : (rdMan l false (fun n => min n 9) (fun n => min n 5)).c0 ≤ 9
        · exact .inr (by have := fun h5 => hc ⟨h3, h5⟩; omega)
        · exact .inl (by omega)
  · rw [if_neg hu, Bool.eq_false_iff.2 hu]
    unfold specFin
    rw [Bool.not_false, rdMan_true, if_pos rfl]

theorem at_split {l : List UInt8} {a : Nat} {x : List UInt8} (h : at_ l a x) : l = l.take a ++ (x ++ l.drop (a + x.length)) ∧ (l.take a).length = a := by
  obtain ⟨h1, h2⟩ := h
  refine ⟨?_, by rw [List.length_take]; omega⟩
  conv => lhs; rw [← List.take_append_drop a l, ← List.take_append_drop x.length (l.drop a), h1, List.drop_drop]
theorem at_of {l p x r : List UInt8} (h : l = p ++ (x ++ r)) : at_ l p.length x := by
  subst h
  refine ⟨by rw [List.drop_left, List.take_left], by simp only [List.length_append]; omega⟩
theorem at_two {l : List UInt8} {a : Nat} {x y : List UInt8} (h : at_ l a (x ++ y)) : at_ l a x ∧ at_ l (a + x.length) y := by
  obtain ⟨h1, h2⟩ := at_split h
  refine ⟨?_, ?_⟩
  · have := at_of (l := l) (p := l.take a) (x := x) (r := y ++ l.drop (a + (x ++ y).length)) (by rw [← List.append_assoc x]; exact h1)
    rwa [h2] at this
  · have := at_of (l := l) (p := l.take a ++ x) (x := y) (r := l.drop (a + (x ++ y).length)) (by rw [List.append_assoc, ← List.append_assoc x]; exact h1)
    rwa [List.length_append, h2] at this
theorem rv_at {l : List UInt8} {a n : Nat} (hn : n ≤ 1000000000) (h : at_ l a (vt n)) : rvOf l (a : Int) = ((n : Int), ((a + (vt n).length : Nat) : Int), true) := by
  have hl := vt_len5 hn
  unfold rvOf
  rw [if_pos (by have := h.2; omega), Int.toNat_natCast]
  have h3 : l.drop a = vt n ++ (l.drop a).drop (vt n).length := by
    conv => lhs; rw [← List.take_append_drop (vt n).length (l.drop a), h.1]
  rw [h3, leb_vt 5 n _ hl.2]
  unfold rvFin
  dsimp only
  rw [if_pos ⟨hn, rfl⟩]
theorem nm_at {l : List UInt8} {a n : Nat} (hn : n ≤ 1000000000) (h : at_ l a (vt n)) : nmOf l a false = ((n : Int), a + (vt n).length, false) := by
  unfold nmOf
  rw [if_neg (by simp), rv_at hn h, if_pos rfl, Int.toNat_natCast]

theorem rdn_at {l : List UInt8} : ∀ (xs : List Int) (a : Nat), (∀ x ∈ xs, 0 ≤ x ∧ x ≤ 1000000000) → at_ l a (vts xs) → rdn l xs.length a false = (xs, a + (vts xs).length, false)
  | [], a, _, _ => rfl
  | x :: xs, a, hx, h => by
    rw [vts] at h
    obtain ⟨h1, h2⟩ := at_two h
    have hx0 := hx x List.mem_cons_self
    have h4 := rdn_at xs (a + (vt x.toNat).length) (fun y hy => hx y (List.mem_cons_of_mem _ hy)) h2
    rw [List.length_cons, rdn, if_neg (by simp), nm_at (by omega) h1]
    dsimp only
    rw [h4, vts, List.length_append, Nat.add_assoc, Int.toNat_of_nonneg hx0.1]
theorem man_back {l : List Int} {next base bt : Int} {c : List Int} (hm : manOf l next base bt c = true) :
    rdMan (manT l next base bt c) false id id = ⟨l, next, base, bt, c, (manT l next base bt c).length, false, l.length, c.length⟩ := by
  obtain ⟨a1, a2, a3, a4, a5, a6, a7, a8, a9, b1, b2, b3⟩ := manOf_small hm
  have hl : 0 + (vt l.length).length + (vts l).length + (vt next.toNat).length + (vt base.toNat).length + (vt bt.toNat).length + (vt c.length).length + (vts c).length = (manT l next base bt c).length := by
    unfold manT
    simp only [List.length_append, Nat.zero_add]
  have h : at_ (manT l next base bt c) 0 (manT l next base bt c) := ⟨by simp, by simp⟩
  rw [← hl]
  generalize hT : manT l next base bt c = T at h ⊢
  rw [show at_ T 0 T = at_ T 0 (manT l next base bt c) by rw [hT]] at h
  unfold manT at h
  obtain ⟨h, q6⟩ := at_two h
  obtain ⟨h, q5⟩ := at_two h
  obtain ⟨h, q4⟩ := at_two h
  obtain ⟨h, q3⟩ := at_two h
  obtain ⟨h, q2⟩ := at_two h
  obtain ⟨q0, q1⟩ := at_two h
  simp only [List.length_append, ← Nat.add_assoc] at q6 q5 q4 q3 q2 q1
  unfold rdMan rdTail
  dsimp only
  rw [nm_at (n := l.length) (by omega) q0]
  dsimp only
  rw [Int.toNat_natCast, id, rdn_at l _ (fun x hx => by have := a3 x hx; omega) q1]
  dsimp only
  rw [nm_at (n := next.toNat) (by omega) q2]
  dsimp only
  rw [nm_at (n := base.toNat) (by omega) q3]
  dsimp only
  rw [nm_at (n := bt.toNat) (by omega) q4]
  dsimp only
  rw [nm_at (n := c.length) (by omega) q5]
  dsimp only
  rw [Int.toNat_natCast, id, rdn_at c _ (fun x hx => by have := b3 x hx; omega) q6, Int.toNat_of_nonneg a4, Int.toNat_of_nonneg a6, Int.toNat_of_nonneg a8]
theorem unsL_seal (x : List UInt8) (hx : x.length ≤ 20000) : unsL (x ++ four (crc x)) = (x, true) := by
  have hl : (x ++ four (crc x)).length = x.length + 4 := by rw [List.length_append, four_len]
  unfold unsL
  rw [hl, show x.length + 4 - 4 = x.length by omega, List.drop_left, List.take_left, if_pos ⟨by omega, by omega, rfl⟩]
theorem implMan_back {l : List Int} {next base bt : Int} {c : List Int} (hm : manOf l next base bt c = true) :
    implMan (manT l next base bt c ++ four (crc (manT l next base bt c))) = (l, next, base, bt, c, true) := by
  have hl := manT_len hm
  unfold implMan
  rw [unsL_seal _ (by omega), if_pos rfl]
  dsimp only
  rw [man_back hm]
  unfold implFin
  dsimp only
  rw [if_pos ⟨rfl, rfl⟩, if_pos hm]
theorem implMan_no {t : List UInt8} (h : unsealOf t = (mk [], false)) : implMan t = manNo := by
  rw [unsealOf_L] at h
  have h2 := congrArg Prod.snd h
  dsimp only at h2
  unfold implMan
  rw [h2, if_neg (by simp)]

theorem spec_l01New.ev0 (l : List Int) (hs : l.length ≤ 1048576) (d : Nat) : ∀ (i : Nat) (h : Int), i + d = l.length → ∃ h', Ev (fun k => spec_l01New.l0 k l h (i : Int)) (l, 0, h') := by
  induction d with
  | zero =>
    intro i h hi
    refine ⟨h, 1, fun k hk => ?_⟩
    obtain ⟨k, rfl⟩ : ∃ m, k = m + 1 := ⟨k - 1, by omega⟩
    show spec_l01New.l0 (k + 1) _ _ _ = _
    rw [spec_l01New.l0, if_neg (by omega)]
  | succ d ih =>
    intro i h hi
    by_cases hc : i < 4000
    · have e3 : Hd (wrap64 ((i : Int) + 1) = ((i + 1 : Nat) : Int)) := Hd.mk <| by rw [w64 (by omega) (by omega)]; rfl
      obtain ⟨h', hh⟩ := ih (i + 1) (Go.bits .and .i64 (wrap64 ((wrap64 ((wrap64 (h * 131)) + (wrap64 (rd l (i : Int))))) + 7)) 1073741823) (by omega)
      refine ⟨h', Ev.step (fun k => ?_) hh⟩
      show spec_l01New.l0 (k + 1) _ _ _ = _
      rw [spec_l01New.l0, if_pos (by omega), if_pos (by omega), if_pos (by omega), e3.out]
    · refine ⟨h, 1, fun k hk => ?_⟩
      obtain ⟨k, rfl⟩ : ∃ m, k = m + 1 := ⟨k - 1, by omega⟩
      show spec_l01New.l0 (k + 1) _ _ _ = _
      rw [spec_l01New.l0, if_pos (by omega), if_neg (by omega)]
theorem spec_l01New.ev (l : List Int) (hs : l.length ≤ 1048576) : ∃ h, Ev (fun k => spec_l01New.f k l) (l, 0, h) := by
  obtain ⟨h, hh⟩ := spec_l01New.ev0 l hs l.length 0 (wrap64 (10301 + (l.length : Int))) (by omega)
  exact ⟨h, hh⟩
theorem i64_and255 (n : Int) : Go.bits .and .i64 n 255 = n % 256 := by
  have h255 : (BitVec.ofInt 64 255).toNat = 2 ^ 8 - 1 := by decide
  have key : (BitVec.ofInt 64 n &&& BitVec.ofInt 64 255).toNat = (n % ((2 ^ 64 : Nat) : Int)).toNat % 2 ^ 8 := by
    rw [BitVec.toNat_and, BitVec.toNat_ofInt, h255, Nat.and_two_pow_sub_one_eq_mod]
  show IntKind.i64.wrap ((BitVec.ofInt 64 n &&& BitVec.ofInt 64 255).toNat : Nat) = n % 256
  rw [key, IntKind.wrap_i64]
  omega
theorem spec_l01Byte.is (b : List Int) (hs : b.length ≤ 1048576) (i h : Int) (h0 : 0 ≤ i) (h1 : i ≤ b.length) : ∃ v i' h', spec_l01Byte.f b i h = some (v, i', h') ∧ 0 ≤ v ∧ v ≤ 255 ∧ 0 ≤ i' ∧ i' ≤ b.length := by
  unfold spec_l01Byte.f
  by_cases hc : i < (b.length : Int)
  · rw [if_pos hc, if_pos h0, i64_and255]
    exact ⟨_, _, _, rfl, by omega, by omega, by rw [w64 (by omega) (by omega)]; omega, by rw [w64 (by omega) (by omega)]; omega⟩
  · rw [if_neg hc, i64_and255]
    exact ⟨_, _, _, rfl, by omega, by omega, h0, h1⟩
theorem tmod_in {x n : Int} (h0 : 0 ≤ x) (hn : 0 < n) : 0 ≤ Int.tmod x n ∧ Int.tmod x n < n := by
  rw [Int.tmod_eq_emod_of_nonneg h0]
  exact ⟨Int.emod_nonneg _ (by omega), Int.emod_lt_of_pos _ hn⟩
theorem spec_l01Below.is (b : List Int) (hs : b.length ≤ 1048576) (i h n : Int) (h0 : 0 ≤ i) (h1 : i ≤ b.length) : ∃ v i' h', spec_l01Below.f b i h n = some (v, i', h') ∧ 0 ≤ v ∧ (n ≤ 0 → v = 0) ∧ (0 < n → v < n) ∧ 0 ≤ i' ∧ i' ≤ b.length := by
  unfold spec_l01Below.f
  by_cases hc : n ≤ 0
  · rw [if_pos hc]
    exact ⟨_, _, _, rfl, by omega, fun _ => rfl, fun h => by omega, h0, h1⟩
  · rw [if_neg hc]
    by_cases hd : n ≤ 256
    · obtain ⟨v, i', h', e, g0, g1, g2, g3⟩ := spec_l01Byte.is b hs i h h0 h1
      rw [if_pos hd, e, Option.bind_some, if_neg (by omega)]
      have := tmod_in g0 (show 0 < n by omega)
      exact ⟨_, _, _, rfl, this.1, fun h => by omega, fun _ => this.2, g2, g3⟩
    · obtain ⟨v1, i1, s1, e1, a1, b1, c1, d1⟩ := spec_l01Byte.is b hs i h h0 h1
      obtain ⟨v2, i2, s2, e2, a2, b2, c2, d2⟩ := spec_l01Byte.is b hs i1 s1 c1 d1
      obtain ⟨v3, i3, s3, e3, a3, b3, c3, d3⟩ := spec_l01Byte.is b hs i2 s2 c2 d2
      obtain ⟨v4, i4, s4, e4, a4, b4, c4, d4⟩ := spec_l01Byte.is b hs i3 s3 c3 d3
      rw [if_neg hd, e1, Option.bind_some]
      dsimp only
      rw [e2, Option.bind_some]
      dsimp only
      rw [e3, Option.bind_some]
      dsimp only
      rw [e4, Option.bind_some, if_neg (by omega)]
      have hw : 0 ≤ wrap64 ((wrap64 ((wrap64 ((wrap64 (v1 * 16777216)) + (wrap64 (v2 * 65536)))) + (wrap64 (v3 * 256)))) + v4) := by
        rw [w64 (x := v1 * 16777216) (by omega) (by omega), w64 (x := v2 * 65536) (by omega) (by omega), w64 (x := v3 * 256) (by omega) (by omega), w64 (x := v1 * 16777216 + v2 * 65536) (by omega) (by omega),
          w64 (x := v1 * 16777216 + v2 * 65536 + v3 * 256) (by omega) (by omega), w64 (by omega) (by omega)]
        omega
      have := tmod_in hw (show 0 < n by omega)
      exact ⟨_, _, _, rfl, this.1, fun h => by omega, fun _ => this.2, c4, d4⟩
theorem spec_l01Once.is (b : List Int) (hs : b.length ≤ 1048576) (i h n : Int) (h0 : 0 ≤ i) (h1 : i ≤ b.length) : ∃ v i' h', spec_l01Once.f b i h n = some (v, i', h') ∧ 0 ≤ i' ∧ i' ≤ b.length := by
  obtain ⟨v, i', h', e, _, _, _, g0, g1⟩ := spec_l01Below.is b hs i h n h0 h1
  unfold spec_l01Once.f
  rw [e, Option.bind_some]
  exact ⟨_, _, _, rfl, g0, g1⟩
theorem spec_l01PickInt.is (b : List Int) (hs : b.length ≤ 1048576) (i h : Int) (l : List Int) (hl : 0 < l.length) (h0 : 0 ≤ i) (h1 : i ≤ b.length) : ∃ v i' h', spec_l01PickInt.f b i h l = some (v, i', h') ∧ 0 ≤ i' ∧ i' ≤ b.length := by
  obtain ⟨v, i', h', e, g0, _, g1, g2, g3⟩ := spec_l01Below.is b hs i h (l.length : Int) h0 h1
  have g1 := g1 (by omega)
  unfold spec_l01PickInt.f
  rw [e, Option.bind_some, if_pos g0, if_pos g1]
  exact ⟨_, _, _, rfl, g2, g3⟩
theorem spec_l07Conf.ev0 (b : List Int) (hs : b.length ≤ 1048576) (d : Nat) : ∀ (j : Nat) (acc : List Int) (i h : Int), j + d = 5 → acc.length ≤ j → 0 ≤ i → i ≤ b.length →
    ∃ (c : List Int) (i' h' : Int), Ev (fun k => spec_l07Conf.l0 k acc (j : Int) b i h) (c, i', h') ∧ c.length ≤ 6 ∧ 0 ≤ i' ∧ i' ≤ b.length := by
  induction d with
  | zero =>
    intro j acc i h hj ha h0 h1
    by_cases hc : (acc.length : Int) = 0
    · refine ⟨acc ++ [1], i, h, ev_now fun k => ?_, by simp; omega, h0, h1⟩
      show spec_l07Conf.l0 (k + 1) _ _ _ _ _ = _
      rw [spec_l07Conf.l0, if_neg (by omega), if_pos hc, if_pos (by omega)]
    · refine ⟨acc, i, h, ev_now fun k => ?_, by omega, h0, h1⟩
      show spec_l07Conf.l0 (k + 1) _ _ _ _ _ = _
      rw [spec_l07Conf.l0, if_neg (by omega), if_neg hc]
  | succ d ih =>
    intro j acc i h hj ha h0 h1
    obtain ⟨o, i', h', e, g0, g1⟩ := spec_l01Once.is b hs i h 2 h0 h1
    have ew : Hd (wrap64 ((j : Int) + 1) = ((j + 1 : Nat) : Int)) := Hd.mk <| by rw [w64 (by omega) (by omega)]; rfl
    cases o with
    | true =>
      obtain ⟨c, i2, h2, hr, r1, r2, r3⟩ := ih (j + 1) (acc ++ [(j : Int)]) i' h' (by omega) (by simp; omega) g0 g1
      refine ⟨c, i2, h2, Ev.step (fun k => ?_) hr, r1, r2, r3⟩
      show spec_l07Conf.l0 (k + 1) _ _ _ _ _ = _
      rw [spec_l07Conf.l0, if_pos (by omega), e, Option.bind_some]
      dsimp only
      rw [if_pos rfl, if_pos (by omega), ew.out]
    | false =>
      obtain ⟨c, i2, h2, hr, r1, r2, r3⟩ := ih (j + 1) acc i' h' (by omega) (by omega) g0 g1
      refine ⟨c, i2, h2, Ev.step (fun k => ?_) hr, r1, r2, r3⟩
      show spec_l07Conf.l0 (k + 1) _ _ _ _ _ = _
      rw [spec_l07Conf.l0, if_pos (by omega), e, Option.bind_some]
      dsimp only
      rw [if_neg (by simp), ew.out]
theorem spec_l07Conf.ev (b : List Int) (hs : b.length ≤ 1048576) (i h : Int) (h0 : 0 ≤ i) (h1 : i ≤ b.length) : ∃ (c : List Int) (i' h' : Int), Ev (fun k => spec_l07Conf.f k b i h) (c, i', h') ∧ c.length ≤ 6 ∧ 0 ≤ i' ∧ i' ≤ b.length := by
  obtain ⟨c, i', h', e, r⟩ := spec_l07Conf.ev0 b hs 4 1 [] i h (by omega) (by simp) h0 h1
  exact ⟨c, i', h', e, r⟩
theorem spec_l07AnyConf.ev (b : List Int) (hs : b.length ≤ 1048576) (i h : Int) (h0 : 0 ≤ i) (h1 : i ≤ b.length) : ∃ (c : List Int) (i' h' : Int), Ev (fun k => spec_l07AnyConf.f k b i h) (c, i', h') ∧ c.length ≤ 7 := by
  obtain ⟨c, i1, s1, ⟨K, e1⟩, hc, g0, g1⟩ := spec_l07Conf.ev b hs i h h0 h1
  dsimp only at e1
  obtain ⟨v, i2, s2, e2, _, _, _, g2, g3⟩ := spec_l01Below.is b hs i1 s1 12 g0 g1
  by_cases q0 : v = 0
  · obtain ⟨p, i3, s3, e3, g4, g5⟩ := spec_l01PickInt.is b hs i2 s2 [0, 4, 5, 1] (by simp) g2 g3
    refine ⟨c ++ [p], i3, s3, ⟨K, fun k hk => ?_⟩, by simp; omega⟩
    show spec_l07AnyConf.f k _ _ _ = _
    unfold spec_l07AnyConf.f
    rw [e1 k hk, Option.bind_some]
    dsimp only
    rw [e2, Option.bind_some]
    dsimp only
    rw [if_pos q0, e3, Option.bind_some]
    dsimp only
    rw [if_pos (by omega)]
  by_cases q1 : v = 1
  · refine ⟨[], i2, s2, ⟨K, fun k hk => ?_⟩, by simp⟩
    show spec_l07AnyConf.f k _ _ _ = _
    unfold spec_l07AnyConf.f
    rw [e1 k hk, Option.bind_some]
    dsimp only
    rw [e2, Option.bind_some]
    dsimp only
    rw [if_neg q0, if_pos q1]
  · refine ⟨c, i2, s2, ⟨K, fun k hk => ?_⟩, by omega⟩
    show spec_l07AnyConf.f k _ _ _ = _
    unfold spec_l07AnyConf.f
    rw [e1 k hk, Option.bind_some]
    dsimp only
    rw [e2, Option.bind_some]
    dsimp only
    rw [if_neg q0, if_neg q1]
abbrev ManD := List Int × Int × Int × Int × List Int × Int × Int
def few (r : ManD) : Prop := r.1.length ≤ 20 ∧ r.2.2.2.2.1.length ≤ 20
theorem spec_l07Manifest.ev1 (b : List Int) (hs : b.length ≤ 1048576) (i h : Int) (l : List Int) (n1 n2 n3 : Int) (c : List Int) (hl : l.length ≤ 9) (hc : c.length ≤ 9) (h0 : 0 ≤ i) (h1 : i ≤ b.length) :
    ∃ r : ManD, Ev (fun k => spec_l07Manifest.j1 k b i h l n1 n2 n3 c) r ∧ few r := by
  obtain ⟨v, i2, s2, e2, _, _, _, g2, g3⟩ := spec_l01Below.is b hs i h 30 h0 h1
  by_cases q0 : v = 0
  · obtain ⟨p, i3, s3, e3, g4, g5⟩ := spec_l01PickInt.is b hs i2 s2 [(-1), n1, wrap64 (n1 - 1), 999] (by simp) g2 g3
    refine ⟨(l ++ [p], n1, n2, n3, c, i3, s3), ev_now fun k => ?_, ⟨by simp; omega, by show c.length ≤ 20; omega⟩⟩
    show spec_l07Manifest.j1 (k + 1) _ _ _ _ _ _ _ _ = _
    rw [spec_l07Manifest.j1, e2, Option.bind_some]
    dsimp only
    rw [if_pos q0, e3, Option.bind_some]
    dsimp only
    rw [if_pos (by omega)]
  by_cases q1 : v = 1
  · obtain ⟨p, i3, s3, e3, g4, g5⟩ := spec_l01PickInt.is b hs i2 s2 [(-1), 0, 1000, 1001] (by simp) g2 g3
    refine ⟨(l, p, n2, n3, c, i3, s3), ev_now fun k => ?_, ⟨by show l.length ≤ 20; omega, by show c.length ≤ 20; omega⟩⟩
    show spec_l07Manifest.j1 (k + 1) _ _ _ _ _ _ _ _ = _
    rw [spec_l07Manifest.j1, e2, Option.bind_some]
    dsimp only
    rw [if_neg q0, if_pos q1, e3, Option.bind_some]
  by_cases q2 : v = 2
  · obtain ⟨p, i3, s3, e3, g4, g5⟩ := spec_l01PickInt.is b hs i2 s2 [(-1), 100000, 100001] (by simp) g2 g3
    refine ⟨(l, n1, p, n3, c, i3, s3), ev_now fun k => ?_, ⟨by show l.length ≤ 20; omega, by show c.length ≤ 20; omega⟩⟩
    show spec_l07Manifest.j1 (k + 1) _ _ _ _ _ _ _ _ = _
    rw [spec_l07Manifest.j1, e2, Option.bind_some]
    dsimp only
    rw [if_neg q0, if_neg q1, if_pos q2, e3, Option.bind_some]
  by_cases q3 : v = 3
  · obtain ⟨p, i3, s3, e3, g4, g5⟩ := spec_l01PickInt.is b hs i2 s2 [(-1), 100000, 100001] (by simp) g2 g3
    refine ⟨(l, n1, n2, p, c, i3, s3), ev_now fun k => ?_, ⟨by show l.length ≤ 20; omega, by show c.length ≤ 20; omega⟩⟩
    show spec_l07Manifest.j1 (k + 1) _ _ _ _ _ _ _ _ = _
    rw [spec_l07Manifest.j1, e2, Option.bind_some]
    dsimp only
    rw [if_neg q0, if_neg q1, if_neg q2, if_pos q3, e3, Option.bind_some]
  by_cases q4 : v = 4
  · obtain ⟨p, i3, s3, ⟨K, e3⟩, g4⟩ := spec_l07AnyConf.ev b hs i2 s2 g2 g3
    dsimp only at e3
    refine ⟨(l, n1, n2, n3, p, i3, s3), ⟨K + 1, fun k hk => ?_⟩, ⟨by show l.length ≤ 20; omega, by show p.length ≤ 20; omega⟩⟩
    obtain ⟨k, rfl⟩ : ∃ m, k = m + 1 := ⟨k - 1, by omega⟩
    show spec_l07Manifest.j1 (k + 1) _ _ _ _ _ _ _ _ = _
    rw [spec_l07Manifest.j1, e2, Option.bind_some]
    dsimp only
    rw [if_neg q0, if_neg q1, if_neg q2, if_neg q3, if_pos q4, e3 k (by omega), Option.bind_some]
  by_cases q5 : v = 5
  · refine ⟨([], n1, n2, n3, c, i2, s2), ev_now fun k => ?_, ⟨by simp, by show c.length ≤ 20; omega⟩⟩
    show spec_l07Manifest.j1 (k + 1) _ _ _ _ _ _ _ _ = _
    rw [spec_l07Manifest.j1, e2, Option.bind_some]
    dsimp only
    rw [if_neg q0, if_neg q1, if_neg q2, if_neg q3, if_neg q4, if_pos q5]
  · refine ⟨(l, n1, n2, n3, c, i2, s2), ev_now fun k => ?_, ⟨by show l.length ≤ 20; omega, by show c.length ≤ 20; omega⟩⟩
    show spec_l07Manifest.j1 (k + 1) _ _ _ _ _ _ _ _ = _
    rw [spec_l07Manifest.j1, e2, Option.bind_some]
    dsimp only
    rw [if_neg q0, if_neg q1, if_neg q2, if_neg q3, if_neg q4, if_neg q5]
theorem spec_l07Manifest.ev0 (b : List Int) (hs : b.length ≤ 1048576) (n : Nat) (hn : n ≤ 9) (n2 n3 : Int) (c : List Int) (hc : c.length ≤ 9) (d : Nat) : ∀ (j : Nat) (l : List Int) (i h : Int), j + d = n → l.length ≤ 8 → 0 ≤ i → i ≤ b.length →
    ∃ r : ManD, Ev (fun k => spec_l07Manifest.l0 k (j : Int) b i h l (n : Int) n2 n3 c) r ∧ few r := by
  induction d with
  | zero =>
    intro j l i h hj hl h0 h1
    by_cases hz : (l.length : Int) = 0
    · obtain ⟨r, hr, hf⟩ := spec_l07Manifest.ev1 b hs i h (l ++ [0]) (n : Int) n2 n3 c (by simp; omega) hc h0 h1
      refine ⟨r, Ev.step (fun k => ?_) hr, hf⟩
      show spec_l07Manifest.l0 (k + 1) _ _ _ _ _ _ _ _ _ = _
      rw [spec_l07Manifest.l0, if_neg (by omega), if_pos hz, if_pos (by omega)]
    · obtain ⟨r, hr, hf⟩ := spec_l07Manifest.ev1 b hs i h l (n : Int) n2 n3 c (by omega) hc h0 h1
      refine ⟨r, Ev.step (fun k => ?_) hr, hf⟩
      show spec_l07Manifest.l0 (k + 1) _ _ _ _ _ _ _ _ _ = _
      rw [spec_l07Manifest.l0, if_neg (by omega), if_neg hz]
  | succ d ih =>
    intro j l i h hj hl h0 h1
    obtain ⟨o, i', h', e, g0, g1⟩ := spec_l01Once.is b hs i h 2 h0 h1
    have ew : Hd (wrap64 ((j : Int) + 1) = ((j + 1 : Nat) : Int)) := Hd.mk <| by rw [w64 (by omega) (by omega)]; rfl
    cases o with
    | true =>
      by_cases hz : (l.length : Int) < 8
      · obtain ⟨r, hr, hf⟩ := ih (j + 1) (l ++ [(j : Int)]) i' h' (by omega) (by simp; omega) g0 g1
        refine ⟨r, Ev.step (fun k => ?_) hr, hf⟩
        show spec_l07Manifest.l0 (k + 1) _ _ _ _ _ _ _ _ _ = _
        rw [spec_l07Manifest.l0, if_pos (by omega), e, Option.bind_some]
        dsimp only
        rw [if_pos rfl, if_pos hz, if_pos (by omega), ew.out]
      · obtain ⟨r, hr, hf⟩ := ih (j + 1) l i' h' (by omega) (by omega) g0 g1
        refine ⟨r, Ev.step (fun k => ?_) hr, hf⟩
        show spec_l07Manifest.l0 (k + 1) _ _ _ _ _ _ _ _ _ = _
        rw [spec_l07Manifest.l0, if_pos (by omega), e, Option.bind_some]
        dsimp only
        rw [if_pos rfl, if_neg hz, ew.out]
    | false =>
      obtain ⟨r, hr, hf⟩ := ih (j + 1) l i' h' (by omega) (by omega) g0 g1
      refine ⟨r, Ev.step (fun k => ?_) hr, hf⟩
      show spec_l07Manifest.l0 (k + 1) _ _ _ _ _ _ _ _ _ = _
      rw [spec_l07Manifest.l0, if_pos (by omega), e, Option.bind_some]
      dsimp only
      rw [if_neg (by simp), ew.out]
theorem spec_DrawManifestText.ev (b : List Int) (hs : b.length ≤ 1048576) : ∃ (l : List Int) (n1 n2 n3 : Int) (c : List Int), Ev (fun k => spec_DrawManifestText.f k b) (l, n1, n2, n3, c) ∧ l.length ≤ 20 ∧ c.length ≤ 20 := by
  obtain ⟨h, ⟨K1, h1⟩⟩ := spec_l01New.ev b hs
  obtain ⟨v1, i1, s1, e1, p0, _, p1, a0, a1⟩ := spec_l01Below.is b hs 0 h 9 (by omega) (by omega)
  have p1 := p1 (by omega)
  obtain ⟨v2, i2, s2, e2, _, _, _, b0, b1⟩ := spec_l01Below.is b hs i1 s1 40 a0 a1
  obtain ⟨v3, i3, s3, e3, _, _, _, c0, c1⟩ := spec_l01Below.is b hs i2 s2 9 b0 b1
  obtain ⟨c, i4, s4, ⟨K4, h4⟩, hc, d0, d1⟩ := spec_l07Conf.ev b hs i3 s3 c0 c1
  obtain ⟨n, rfl⟩ := Int.eq_ofNat_of_zero_le p0
  obtain ⟨⟨l, n1, n2, n3, cc, i5, s5⟩, ⟨K5, h5⟩, hf1, hf2⟩ := spec_l07Manifest.ev0 b hs (n + 1) (by omega) v2 v3 c (by omega) (n + 1) 0 [] i4 s4 (by omega) (by simp) d0 d1
  dsimp only at h1 h4 h5 hf1 hf2
  have ew : Hd (wrap64 (1 + (n : Int)) = ((n + 1 : Nat) : Int)) := Hd.mk <| by rw [w64 (by omega) (by omega)]; omega
  refine ⟨l, n1, n2, n3, cc, ⟨K1 + K4 + K5, fun k hk => ?_⟩, hf1, hf2⟩
  show spec_DrawManifestText.f k _ = _
  unfold spec_DrawManifestText.f
  rw [h1 k (by omega), Option.bind_some]
  dsimp only
  unfold spec_l07Manifest.f
  rw [e1, Option.bind_some]
  dsimp only
  rw [e2, Option.bind_some]
  dsimp only
  rw [e3, Option.bind_some]
  dsimp only
  rw [h4 k (by omega), Option.bind_some]
  dsimp only
  rw [ew.out]
  have h5' := h5 k (by omega)
  rw [show ((0 : Nat) : Int) = 0 from rfl] at h5'
  rw [h5', Option.bind_some]

theorem laws_sameInts.ev0 (a : List Int) (hs : a.length ≤ 17592186043904) (d : Nat) : ∀ (i : Nat), i + d = a.length → Ev (fun k => laws_sameInts.l0 k a a (i : Int)) true := by
  induction d with
  | zero =>
    intro i hi
    refine ev_now fun k => ?_
    show laws_sameInts.l0 (k + 1) _ _ _ = _
    rw [laws_sameInts.l0, if_neg (by omega)]
  | succ d ih =>
    intro i hi
    refine Ev.step (fun k => ?_) (ih (i + 1) (by omega))
    show laws_sameInts.l0 (k + 1) _ _ _ = laws_sameInts.l0 k _ _ _
    rw [laws_sameInts.l0, if_pos (by omega), if_pos (by omega), if_pos (by omega), if_pos rfl, w64 (by omega) (by omega)]
    rfl
theorem laws_sameInts.ev1 (a : List Int) (hs : a.length ≤ 17592186043904) : Ev (fun k => laws_sameInts.f k a a) true := by
  obtain ⟨K, h⟩ := laws_sameInts.ev0 a hs a.length 0 (by omega)
  dsimp only at h
  refine ⟨K, fun k hk => ?_⟩
  show laws_sameInts.f k _ _ = _
  unfold laws_sameInts.f
  rw [if_pos rfl]
  exact h k hk
theorem laws_sameMan.ev1 (l : List Int) (n1 n2 n3 : Int) (c : List Int) (hl : l.length ≤ 1000) (hc : c.length ≤ 1000) : Ev (fun k => laws_sameMan.f k l n1 n2 n3 c l n1 n2 n3 c) true := by
  obtain ⟨K1, h1⟩ := laws_sameInts.ev1 l (by omega)
  obtain ⟨K2, h2⟩ := laws_sameInts.ev1 c (by omega)
  dsimp only at h1 h2
  refine ⟨K1 + K2, fun k hk => ?_⟩
  show laws_sameMan.f k _ _ _ _ _ _ _ _ _ _ = _
  unfold laws_sameMan.f
  rw [h1 k (by omega), Option.bind_some, if_pos rfl, if_pos rfl, if_pos rfl, if_pos rfl, h2 k (by omega), Option.bind_some]

theorem xor_cancel {a b c : Nat} (h : a ^^^ c = b ^^^ c) : a = b := by
  have := congrArg (· ^^^ c) h
  simpa [Nat.xor_assoc] using this
theorem xor_high {a : Nat} (h : a < 2147483648) : 2147483648 ≤ a ^^^ 3558460437 := by
  refine Classical.byContradiction fun hn => ?_
  have h1 : a ^^^ (a ^^^ 3558460437) = 3558460437 := by rw [← Nat.xor_assoc, Nat.xor_self, Nat.zero_xor]
  have h2 : a ^^^ (a ^^^ 3558460437) < 2147483648 := Nat.xor_lt_two_pow (n := 31) h (by omega)
  omega
theorem crcBit_inj {x y : Nat} (hx : x < 4294967296) (hy : y < 4294967296) (h : crcBit x = crcBit y) : x = y := by
  unfold crcBit at h
  have h1 := xor_high (a := x / 2) (by omega)
  have h2 := xor_high (a := y / 2) (by omega)
  by_cases a : x % 2 = 1 <;> by_cases b : y % 2 = 1
  · rw [if_pos a, if_pos b] at h
    have := xor_cancel h
    omega
  · rw [if_pos a, if_neg b] at h
    omega
  · rw [if_neg a, if_pos b] at h
    omega
  · rw [if_neg a, if_neg b] at h
    omega
theorem crcBits_inj : ∀ (n : Nat) {x y : Nat}, x < 4294967296 → y < 4294967296 → crcBits n x = crcBits n y → x = y
  | 0, _, _, _, _, h => h
  | n + 1, _, _, hx, hy, h => crcBit_inj hx hy (crcBits_inj n (crcBit_lt hx) (crcBit_lt hy) h)
theorem crcL_inj : ∀ (l : List UInt8) {x y : Nat}, x < 4294967296 → y < 4294967296 → crcL x l = crcL y l → x = y
  | [], _, _, _, _, h => h
  | b :: l, x, y, hx, hy, h => by
    have hb := b.toNat_lt
    rw [crcL_cons, crcL_cons] at h
    have h1 := crcL_inj l (crcBits_lt 8 (xor_lt32 hx (by omega))) (crcBits_lt 8 (xor_lt32 hy (by omega))) h
    exact xor_cancel (crcBits_inj 8 (xor_lt32 hx (by omega)) (xor_lt32 hy (by omega)) h1)
/-- Texts that differ in one byte have other sums. -/
theorem crc_one (a c : List UInt8) (b b' : UInt8) (h : crc (a ++ b :: c) = crc (a ++ b' :: c)) : b = b' := by
  have h0 := b.toNat_lt
  have h0' := b'.toNat_lt
  have hx : crcL 4294967295 a < 4294967296 := crcL_lt a (by omega)
  unfold crc at h
  rw [crcL_append, crcL_append, crcL_cons, crcL_cons] at h
  have h1 := crcL_inj c (crcBits_lt 8 (xor_lt32 hx (by omega))) (crcBits_lt 8 (xor_lt32 hx (by omega))) h
  have h2 := crcBits_inj 8 (xor_lt32 hx (by omega)) (xor_lt32 hx (by omega)) h1
  rw [Nat.xor_comm _ b.toNat, Nat.xor_comm _ b'.toNat] at h2
  exact UInt8.toNat_inj.1 (xor_cancel h2)
theorem four_inj {n m : Nat} (hn : n < 4294967296) (hm : m < 4294967296) (h : four n = four m) : n = m := by
  have e : ∀ a b : Nat, UInt8.ofNat (a % 256) = UInt8.ofNat (b % 256) → a % 256 = b % 256 := fun a b h => by
    have := congrArg UInt8.toNat h
    rw [UInt8.toNat_ofNat', UInt8.toNat_ofNat'] at this
    omega
  unfold four at h
  simp only [List.cons.injEq, and_true] at h
  obtain ⟨h1, h2, h3, h4⟩ := h
  have h1 := e _ _ h1
  have h2 := e _ _ h2
  have h3 := e _ _ h3
  have h4 := e _ _ h4
  omega

theorem bytesOf_mk (l : List UInt8) : bytesOf (mk l) = nm l := by
  unfold bytesOf nm mk
  simp
/-- A sealed text whose one byte is another is not one. -/
theorem turned_not (s : List UInt8) (hs : s.length ≤ 20000) (i : Nat) (hi : i < s.length + 4) (y : UInt8) (hy : (s ++ four (crc s))[i]? ≠ some y) : unsealOf ((s ++ four (crc s)).set i y) = (mk [], false) := by
  have hl : ((s ++ four (crc s)).set i y).length = s.length + 4 := by rw [List.length_set, List.length_append, four_len]
  unfold unsealOf
  rw [hl, show s.length + 4 - 4 = s.length by omega]
  refine if_neg fun h => ?_
  obtain ⟨_, _, h⟩ := h
  by_cases hc : i < s.length
  · rw [List.set_append_left _ _ hc] at h
    have ht : (s.set i y ++ four (crc s)).take s.length = s.set i y := by rw [List.take_append_of_le_length (by simp), List.take_of_length_le (by simp)]
    have hd : (s.set i y ++ four (crc s)).drop s.length = four (crc s) := by
      have h9 := List.drop_left (l₁ := s.set i y) (l₂ := four (crc s))
      rwa [List.length_set] at h9
    rw [ht, hd] at h
    have h2 := four_inj (crc_lt _) (crc_lt _) h
    rw [List.set_eq_take_append_cons_drop, if_pos hc] at h2
    have h3 : s = s.take i ++ s[i] :: s.drop (i + 1) := by rw [← List.drop_eq_getElem_cons hc, List.take_append_drop]
    rw [show crc s = crc (s.take i ++ s[i] :: s.drop (i + 1)) from congrArg crc h3] at h2
    have h4 := crc_one _ _ _ _ h2
    rw [List.getElem?_append_left hc, List.getElem?_eq_getElem hc, h4] at hy
    exact hy rfl
  · rw [List.set_append_right _ _ (by omega), List.drop_left, List.take_left] at h
    rw [List.getElem?_append_right (by omega), ← h] at hy
    refine hy ?_
    rw [List.getElem?_set_self (by rw [four_len]; omega)]
theorem turnedOf_mk (t : List UInt8) (a b : Nat) (ht : 0 < t.length) : ∃ y : UInt8, t[a % t.length]? ≠ some y ∧ turnedOf (mk t) (a : Int) (b : Int) = mk (t.set (a % t.length) y) := by
  have hi : a % t.length < t.length := Nat.mod_lt _ ht
  have e1 : ((a : Int) % ((mk t).size : Int)).toNat = a % t.length := by rw [mk_size, ← Int.natCast_emod, Int.toNat_natCast]
  have hx := (t[a % t.length]).toNat_lt
  have hz : (1 + b % 255) < 256 := by omega
  have hxz : (t[a % t.length]).toNat ^^^ (1 + b % 255) < 256 := Nat.xor_lt_two_pow (n := 8) hx hz
  refine ⟨UInt8.ofNat ((t[a % t.length]).toNat ^^^ (1 + b % 255)), ?_, ?_⟩
  · rw [List.getElem?_eq_getElem hi]
    intro h
    injection h with h
    have h2 := congrArg UInt8.toNat h
    rw [UInt8.toNat_ofNat', Nat.mod_eq_of_lt hxz] at h2
    have h3 := congrArg (fun z => (t[a % t.length]).toNat ^^^ z) h2
    simp only [Nat.xor_self, ← Nat.xor_assoc, Nat.zero_xor] at h3
    omega
  · unfold turnedOf
    rw [e1, bytesOf_mk]
    have e2 : (nm t)[a % t.length]?.getD 0 = ((t[a % t.length]).toNat : Int) := by
      unfold nm
      rw [List.getElem?_map, List.getElem?_eq_getElem hi]
      rfl
    have e3 : (1 : Int) + (b : Int) % 255 = ((1 + b % 255 : Nat) : Int) := by omega
    rw [e2, e3, u8_xor_nat _ _ hx hz]
    have e4 : (nm t).set (a % t.length) (((t[a % t.length]).toNat ^^^ (1 + b % 255) : Nat) : Int) = nm (t.set (a % t.length) (UInt8.ofNat ((t[a % t.length]).toNat ^^^ (1 + b % 255)))) := by
      unfold nm
      rw [List.map_set, UInt8.toNat_ofNat', Nat.mod_eq_of_lt hxz]
    rw [e4, strOf_nm]

theorem spec_DrawPlaces.ev0 (b : List Int) (hs : b.length ≤ 1048576) (d : Nat) : ∀ (j : Nat) (acc : List Int) (i h : Int), j + d = 12 → acc.length = j → (∀ x ∈ acc, 0 ≤ x ∧ x < 10000) → 0 ≤ i → i ≤ b.length →
    ∃ p : List Int, Ev (fun k => spec_DrawPlaces.l0 k acc (j : Int) b i h) p ∧ p.length = 12 ∧ ∀ x ∈ p, 0 ≤ x ∧ x < 10000 := by
  induction d with
  | zero =>
    intro j acc i h hj hl ha h0 h1
    refine ⟨acc, ⟨1, fun k hk => ?_⟩, by omega, ha⟩
    obtain ⟨k, rfl⟩ : ∃ m, k = m + 1 := ⟨k - 1, by omega⟩
    show spec_DrawPlaces.l0 (k + 1) _ _ _ _ _ = _
    rw [spec_DrawPlaces.l0, if_neg (by omega)]
  | succ d ih =>
    intro j acc i h hj hl ha h0 h1
    obtain ⟨v, i', h', e, g0, _, g1, g2, g3⟩ := spec_l01Below.is b hs i h 10000 h0 h1
    obtain ⟨p, hp, hp1, hp2⟩ := ih (j + 1) (acc ++ [v]) i' h' (by omega) (by simp; omega) (fun x hx => by
      rcases List.mem_append.1 hx with hx | hx
      · exact ha x hx
      · rw [List.mem_singleton.1 hx]
        exact ⟨g0, g1 (by omega)⟩) g2 g3
    have e3 : Hd (wrap64 ((j : Int) + 1) = ((j + 1 : Nat) : Int)) := Hd.mk <| by rw [w64 (by omega) (by omega)]; rfl
    refine ⟨p, Ev.step (fun k => ?_) hp, hp1, hp2⟩
    show spec_DrawPlaces.l0 (k + 1) _ _ _ _ _ = spec_DrawPlaces.l0 k _ _ _ _ _
    rw [spec_DrawPlaces.l0, if_pos (by omega), e, Option.bind_some]
    dsimp only
    rw [if_pos (by omega), e3.out]
theorem spec_DrawPlaces.ev (l : List Int) (hs : l.length ≤ 1048576) : ∃ p : List Int, Ev (fun k => spec_DrawPlaces.f k l) p ∧ p.length = 12 ∧ ∀ x ∈ p, 0 ≤ x ∧ x < 10000 := by
  obtain ⟨h, ⟨K1, h1⟩⟩ := spec_l01New.ev l hs
  dsimp only at h1
  obtain ⟨v, i', h', e, _, _, g2, g3⟩ := spec_l01Byte.is l hs 0 h (by omega) (by omega)
  obtain ⟨p, ⟨K2, h2⟩, hp1, hp2⟩ := spec_DrawPlaces.ev0 l hs 12 0 [] i' h' (by omega) rfl (fun x hx => by cases hx) g2 g3
  dsimp only at h2
  refine ⟨p, ⟨K1 + K2, fun k hk => ?_⟩, hp1, hp2⟩
  show spec_DrawPlaces.f k _ = _
  unfold spec_DrawPlaces.f
  rw [h1 k (by omega), Option.bind_some, e, Option.bind_some]
  exact h2 k (by omega)
theorem impl_vars.ev0 (l : List Int) (hl : l.length ≤ 1000) (hx : ∀ x ∈ l, 0 ≤ x ∧ x ≤ 1000000000) (hv : ∀ n : Int, Ev (fun k => impl_VarText.f k n) (varOf n)) (d : Nat) : ∀ (i : Nat) (acc : List UInt8), i + d = l.length → acc.length ≤ 5 * i →
    Ev (fun k => impl_vars.l0 k (nm acc) l (l.length : Int) (i : Int)) (mk (acc ++ vts (l.drop i)), true) := by
  induction d with
  | zero =>
    intro i acc hi ha
    refine ev_now fun k => ?_
    show impl_vars.l0 (k + 1) _ _ _ _ = _
    rw [impl_vars.l0, if_neg (by omega), List.drop_eq_nil_of_le (by omega), vts, List.append_nil, strOf_nm]
  | succ d ih =>
    intro i acc hi ha
    have hlt : i < l.length := by omega
    have hm := hx l[i] (List.getElem_mem hlt)
    have e0 : rd l (i : Int) = l[i] := by show l.getD i 0 = _; simp [List.getD_eq_getElem?_getD, List.getElem?_eq_getElem hlt]
    obtain ⟨n, hn⟩ := Int.eq_ofNat_of_zero_le (show 0 ≤ l[i] by omega)
    have g := vt_len5 (n := n) (by omega)
    obtain ⟨K1, h1⟩ := hv n
    obtain ⟨K2, h2⟩ := ih (i + 1) (acc ++ vt n) (by omega) (by rw [List.length_append]; omega)
    dsimp only at h1 h2
    unfold varOf at h1
    refine ⟨K1 + K2 + 1, fun k hk => ?_⟩
    obtain ⟨k, rfl⟩ : ∃ m, k = m + 1 := ⟨k - 1, by omega⟩
    show impl_vars.l0 (k + 1) _ _ _ _ = _
    have h1' := h1 k (by omega)
    rw [if_pos (by omega), Int.toNat_natCast] at h1'
    rw [impl_vars.l0, if_pos (by omega), if_pos (by omega), if_pos (by omega), e0, hn, h1', Option.bind_some, if_pos rfl, if_pos (by rw [nm_length, mk_size]; omega), bytesOf_mk, ← nm_append, w64 (by omega) (by omega)]
    have := h2 k (by omega)
    rw [List.drop_eq_getElem_cons hlt, vts, hn, Int.toNat_natCast, ← List.append_assoc]
    exact this
theorem slices_Concat_int_int.ev0 (ls x0 : List (List Int)) (N : Nat) (hN : N ≤ 1048576) (hl : ls.length ≤ 1000) (ht : ls.flatten.length = N) (r : List Int) (h1 : Ev (fun k => (slices_Grow_int_int.f ([] : List Int) (N : Int)).bind fun t => slices_Concat_int_int.l1 k t x0 (x0.length : Int) 0) r) (d : Nat) : ∀ (i n : Nat), i + d = ls.length → n + ((ls.drop i).flatten).length = N →
    Ev (fun k => slices_Concat_int_int.l0 k x0 (n : Int) ls (ls.length : Int) (i : Int)) r := by
  induction d with
  | zero =>
    intro i n hi hn
    rw [List.drop_eq_nil_of_le (by omega)] at hn
    obtain rfl : n = N := by simpa using hn
    obtain ⟨K, h⟩ := h1
    dsimp only at h
    refine ⟨K + 1, fun k hk => ?_⟩
    obtain ⟨k, rfl⟩ : ∃ m, k = m + 1 := ⟨k - 1, by omega⟩
    show slices_Concat_int_int.l0 (k + 1) _ _ _ _ _ = _
    rw [slices_Concat_int_int.l0, if_neg (by omega)]
    exact h k (by omega)
  | succ d ih =>
    intro i n hi hn
    have hlt : i < ls.length := by omega
    have e0 : rd_L2 ls (i : Int) = ls[i] := by show ls.getD i [] = _; simp [List.getD_eq_getElem?_getD, List.getElem?_eq_getElem hlt]
    rw [List.drop_eq_getElem_cons hlt, List.flatten_cons, List.length_append] at hn
    have e1 : Hd (wrap64 ((n : Int) + (ls[i].length : Int)) = ((n + ls[i].length : Nat) : Int)) := Hd.mk <| by rw [w64 (by omega) (by omega)]; omega
    have e2 : Hd (wrap64 ((i : Int) + 1) = ((i + 1 : Nat) : Int)) := Hd.mk <| by rw [w64 (by omega) (by omega)]; omega
    refine Ev.step (fun k => ?_) (ih (i + 1) (n + ls[i].length) (by omega) (by omega))
    show slices_Concat_int_int.l0 (k + 1) _ _ _ _ _ = slices_Concat_int_int.l0 k _ _ _ _ _
    rw [slices_Concat_int_int.l0, if_pos (by omega), if_pos (by omega), if_pos (by omega), e0, e1.out, e2.out, if_neg (by omega)]
theorem slices_Concat_int_int.ev1 (ls : List (List Int)) (hl : ls.length ≤ 1000) (d : Nat) : ∀ (i : Nat) (acc : List Int), i + d = ls.length → acc.length + ((ls.drop i).flatten).length ≤ 1048576 →
    Ev (fun k => slices_Concat_int_int.l1 k acc ls (ls.length : Int) (i : Int)) (acc ++ (ls.drop i).flatten) := by
  induction d with
  | zero =>
    intro i acc hi hn
    refine ev_now fun k => ?_
    show slices_Concat_int_int.l1 (k + 1) _ _ _ _ = _
    rw [slices_Concat_int_int.l1, if_neg (by omega), List.drop_eq_nil_of_le (by omega), List.flatten_nil, List.append_nil]
  | succ d ih =>
    intro i acc hi hn
    have hlt : i < ls.length := by omega
    have e0 : rd_L2 ls (i : Int) = ls[i] := by show ls.getD i [] = _; simp [List.getD_eq_getElem?_getD, List.getElem?_eq_getElem hlt]
    rw [List.drop_eq_getElem_cons hlt, List.flatten_cons, List.length_append] at hn
    have e2 : Hd (wrap64 ((i : Int) + 1) = ((i + 1 : Nat) : Int)) := Hd.mk <| by rw [w64 (by omega) (by omega)]; omega
    rw [List.drop_eq_getElem_cons hlt, List.flatten_cons, ← List.append_assoc]
    refine Ev.step (fun k => ?_) (ih (i + 1) (acc ++ ls[i]) (by omega) (by rw [List.length_append]; omega))
    show slices_Concat_int_int.l1 (k + 1) _ _ _ _ = slices_Concat_int_int.l1 k _ _ _ _
    rw [slices_Concat_int_int.l1, if_pos (by omega), if_pos (by omega), if_pos (by omega), e0, e2.out, if_pos (by omega)]
theorem slices_Concat_int_int.ev (ls : List (List Int)) (hl : ls.length ≤ 1000) (h0 : 0 < ls.flatten.length) (h1 : ls.flatten.length ≤ 1048576) : Ev (fun k => slices_Concat_int_int.f k ls) ls.flatten := by
  obtain ⟨K, h⟩ := slices_Concat_int_int.ev1 ls hl ls.length 0 [] (by omega) (by simpa using h1)
  dsimp only at h
  obtain ⟨K2, h2⟩ := slices_Concat_int_int.ev0 ls ls ls.flatten.length h1 hl rfl ls.flatten ⟨K, fun k hk => by
    show (slices_Grow_int_int.f _ _).bind _ = _
    unfold slices_Grow_int_int.f
    rw [if_pos (by omega), if_pos (by omega), Option.bind_some]
    have := h k hk
    rw [List.drop_zero, List.nil_append] at this
    exact this⟩ ls.length 0 0 (by omega) (by simp)
  dsimp only at h2
  refine ⟨K2, fun k hk => ?_⟩
  show slices_Concat_int_int.f k _ = _
  unfold slices_Concat_int_int.f
  exact h2 k hk

theorem impl_within.is (a lo hi : Int) : impl_within.f a lo hi = some (decide (lo ≤ a ∧ a ≤ hi)) := by
  unfold impl_within.f
  by_cases h : a ≥ lo
  · rw [if_pos h]
    congr 1
    simp only [decide_eq_decide]
    exact ⟨fun h' => ⟨h, h'⟩, fun h' => h'.2⟩
  · rw [if_neg h, decide_eq_false (fun h' => h h'.1)]
theorem impl_VarText.ev0 (n : Nat) : ∀ (acc : List UInt8), n ≤ 9223372036854775807 → acc.length + (vt n).length ≤ 100 → Ev (fun k => impl_VarText.l0 k (n : Int) (nm acc)) (mk (acc ++ vt n), true) := by
  induction n using Nat.strongRecOn with
  | ind n ih =>
    intro acc hn hl
    have hal := nm_length acc
    by_cases h : 127 < n
    · have e1 : Int.tmod (n : Int) 128 = ((n % 128 : Nat) : Int) := tmod_nat n 128
      have e2 : Int.tdiv (n : Int) 128 = ((n / 128 : Nat) : Int) := tdiv_nat n 128
      rw [vt_big h] at hl ⊢
      have e3 : [(wrap64 ((Int.tmod (n : Int) 128) + 128)) % 256] = nm [UInt8.ofNat (n % 128 + 128)] := by
        rw [nm_u8 _ (by omega), e1, w64 (by omega) (by omega)]
        congr 1
        omega
      have := ih (n / 128) (by omega) (acc ++ [UInt8.ofNat (n % 128 + 128)]) (by omega) (by simp at hl ⊢; omega)
      rw [List.append_assoc, List.singleton_append] at this
      refine Ev.step (fun k => ?_) this
      show impl_VarText.l0 (k + 1) _ _ = _
      rw [impl_VarText.l0, if_pos (by omega), if_pos (by simp at hl; omega), e3, e2, w64 (by omega) (by omega), nm_append]
    · refine ⟨1, fun k hk => ?_⟩
      obtain ⟨k, rfl⟩ : ∃ m, k = m + 1 := ⟨k - 1, by omega⟩
      show impl_VarText.l0 (k + 1) _ _ = _
      have e3 : [(n : Int) % 256] = nm [UInt8.ofNat n] := by
        rw [nm_u8 _ (by omega)]
        congr 1
        omega
      rw [vt_small (by omega)] at hl ⊢
      rw [impl_VarText.l0, if_neg (by omega), if_pos (by simp at hl; omega), e3, ← nm_append, strOf_nm]
theorem impl_VarText.ev (n : Int) : Ev (fun k => impl_VarText.f k n) (varOf n) := by
  unfold varOf
  by_cases h : 0 ≤ n ∧ n ≤ 1000000000
  · obtain ⟨m, rfl⟩ := Int.eq_ofNat_of_zero_le h.1
    have hl := vt_len5 (n := m) (by omega)
    obtain ⟨K, hK⟩ := impl_VarText.ev0 m [] (by omega) (by simp; omega)
    dsimp only at hK
    refine ⟨K, fun k hk => ?_⟩
    show impl_VarText.f k _ = _
    unfold impl_VarText.f
    rw [impl_within.is, decide_eq_true h, if_pos h]
    simp only [Option.bind_some, if_true]
    rw [nm_nil, hK k hk]
    rfl
  · refine ⟨0, fun k hk => ?_⟩
    show impl_VarText.f k _ = _
    unfold impl_VarText.f
    rw [impl_within.is, decide_eq_false h, if_neg h]
    rfl
theorem loop_all {F : Nat → Nat → Option Bool} {C : Nat → Bool} {n : Nat} {fin : Bool} (step : ∀ k i, i < n → F (k + 1) i = if C i = true then F k (i + 1) else some false)
    (stop : Ev (fun k => F k n) fin) (d : Nat) : ∀ i, i + d = n → Ev (fun k => F k i) (allF C d i && fin) := by
  induction d with
  | zero =>
    intro i hi
    obtain rfl : i = n := by omega
    rw [allF, Bool.true_and]
    exact stop
  | succ d ih =>
    intro i hi
    by_cases hC : C i = true
    · rw [allF, hC, Bool.true_and]
      exact Ev.step (fun k => by rw [step k i (by omega), if_pos hC]) (ih (i + 1) (by omega))
    · rw [allF, Bool.eq_false_iff.2 hC, Bool.false_and, Bool.false_and]
      exact ev_now fun k => by rw [step k i (by omega), if_neg hC]
theorem impl_ConfOk.ev0 (l : List Int) (hs : l.length ≤ 17592186043904) (d : Nat) : ∀ (i : Nat), i + d = l.length →
    Ev (fun k => impl_ConfOk.l0 k l l (l.length : Int) (i : Int)) (allF (riseC l 1 4) d i && decide (1 ≤ (l.length : Int) ∧ (l.length : Int) ≤ 4)) := by
  induction d with
  | zero =>
    intro i hi
    refine ev_now fun k => ?_
    show impl_ConfOk.l0 (k + 1) _ _ _ _ = _
    rw [impl_ConfOk.l0, if_neg (by omega)]
    rw [impl_within.is]; simp [allF]
  | succ d ih =>
    intro i hi
    have e0 : rd l (i : Int) = l.getD i 0 := rfl
    by_cases h1 : 1 ≤ l.getD i 0 ∧ l.getD i 0 ≤ 4
    · by_cases h2 : i = 0
      · have hC : riseC l 1 4 i = true := by simp only [riseC, decide_eq_true h1, decide_eq_true h2, Bool.true_or, Bool.and_true]
        simp only [allF, hC, Bool.true_and]
        refine Ev.step (fun k => ?_) (ih (i + 1) (by omega))
        show impl_ConfOk.l0 (k + 1) _ _ _ _ = impl_ConfOk.l0 k _ _ _ _
        rw [impl_ConfOk.l0, if_pos (by omega), if_pos (by omega), if_pos (by omega), impl_within.is, e0, decide_eq_true h1]
        simp only [Option.bind_some, if_true]
        rw [if_neg (by omega), w64 (by omega) (by omega)]
        rfl
      · have e1 : rd l (wrap64 ((i : Int) - 1)) = l.getD (i - 1) 0 := by
          rw [w64 (by omega) (by omega), show (i : Int) - 1 = ((i - 1 : Nat) : Int) by omega, rd_nat]
        have e2 : wrap64 ((i : Int) - 1) = ((i - 1 : Nat) : Int) := by rw [w64 (by omega) (by omega)]; omega
        by_cases h3 : l.getD (i - 1) 0 < l.getD i 0
        · have hC : riseC l 1 4 i = true := by simp only [riseC, decide_eq_true h1, decide_eq_true h3, Bool.or_true, Bool.and_true]
          simp only [allF, hC, Bool.true_and]
          refine Ev.step (fun k => ?_) (ih (i + 1) (by omega))
          show impl_ConfOk.l0 (k + 1) _ _ _ _ = impl_ConfOk.l0 k _ _ _ _
          rw [impl_ConfOk.l0, if_pos (by omega), if_pos (by omega), if_pos (by omega), impl_within.is, e0, decide_eq_true h1]
          simp only [Option.bind_some, if_true]
          rw [if_pos (by omega), if_pos (by omega), if_pos (by omega), e1, if_neg (by omega), w64 (x := (i : Int) + 1) (by omega) (by omega)]
          rfl
        · have hC : riseC l 1 4 i = false := by simp only [riseC, decide_eq_true h1, decide_eq_false h3, decide_eq_false h2, Bool.or_false, Bool.and_false]
          simp only [allF, hC, Bool.false_and]
          refine ev_now fun k => ?_
          show impl_ConfOk.l0 (k + 1) _ _ _ _ = _
          rw [impl_ConfOk.l0, if_pos (by omega), if_pos (by omega), if_pos (by omega), impl_within.is, e0, decide_eq_true h1]
          simp only [Option.bind_some, if_true]
          rw [if_pos (by omega), if_pos (by omega), if_pos (by omega), e1, if_pos (by omega)]
    · have hC : riseC l 1 4 i = false := by simp only [riseC, decide_eq_false h1, Bool.false_and]
      simp only [allF, hC, Bool.false_and]
      refine ev_now fun k => ?_
      show impl_ConfOk.l0 (k + 1) _ _ _ _ = _
      rw [impl_ConfOk.l0, if_pos (by omega), if_pos (by omega), if_pos (by omega), impl_within.is, e0, decide_eq_false h1]
      simp
theorem impl_ConfOk.ev (l : List Int) (hs : l.length ≤ 17592186043904) : Ev (fun k => impl_ConfOk.f k l) (confOf l) := by
  obtain ⟨K, h⟩ := impl_ConfOk.ev0 l hs l.length 0 (by omega)
  exact ⟨K, fun k hk => h k hk⟩
theorem impl_ManifestOk.step (l : List Int) (next base bt : Int) (c : List Int) (hs : l.length ≤ 1048576) (k i : Nat) (hlt : i < l.length) :
    impl_ManifestOk.l0 (k + 1) l (l.length : Int) (i : Int) l next base bt c = if manC l next i = true then impl_ManifestOk.l0 k l (l.length : Int) ((i + 1 : Nat) : Int) l next base bt c else some false := by
  have e0 : rd l (i : Int) = l.getD i 0 := rfl
  have e3 : Hd (wrap64 ((i : Int) + 1) = ((i + 1 : Nat) : Int)) := Hd.mk <| by rw [w64 (by omega) (by omega)]; rfl
  have e2 : Hd (0 < i → wrap64 ((i : Int) - 1) = ((i - 1 : Nat) : Int)) := Hd.mk fun h => by rw [w64 (by omega) (by omega)]; omega
  rw [impl_ManifestOk.l0, if_pos (by omega), if_pos (by omega), if_pos (by omega), e0, impl_within.is, Option.bind_some, e3.out]
  by_cases h2 : i = 0
  · simp only [if_neg (show ¬ ((i : Int) > 0) by omega)]
    unfold manC
    generalize l.getD i 0 = x
    generalize impl_ManifestOk.l0 k l (l.length : Int) ((i + 1 : Nat) : Int) l next base bt c = R
    by_cases h1 : 0 ≤ x ∧ x ≤ 999 <;> by_cases hv : x ≥ next <;> simp [h1, hv, h2]
  · have e1 : rd l ((i - 1 : Nat) : Int) = l.getD (i - 1) 0 := rfl
    simp only [if_pos (show ((i : Int) > 0) by omega), e2.out (by omega), if_pos (show (0 : Int) ≤ ((i - 1 : Nat) : Int) by omega), if_pos (show ((i - 1 : Nat) : Int) < (l.length : Int) by omega), e1]
    unfold manC
    generalize l.getD i 0 = x
    generalize l.getD (i - 1) 0 = y
    generalize impl_ManifestOk.l0 k l (l.length : Int) ((i + 1 : Nat) : Int) l next base bt c = R
    by_cases h1 : 0 ≤ x ∧ x ≤ 999 <;> by_cases hv : x ≥ next <;> by_cases hb : y ≥ x <;> simp [h1, hv, hb, h2]
theorem impl_ManifestOk.ev (l : List Int) (next base bt : Int) (c : List Int) (hs : l.length ≤ 1048576) (hc : c.length ≤ 1048576) : Ev (fun k => impl_ManifestOk.f k l next base bt c) (manOf l next base bt c) := by
  have stop : Ev (fun k => impl_ManifestOk.l0 k l (l.length : Int) ((l.length : Nat) : Int) l next base bt c)
      (decide (1 ≤ (l.length : Int) ∧ (l.length : Int) ≤ 8) && (decide (next ≤ 1000) && (decide (0 ≤ base ∧ base ≤ 100000) && (decide (0 ≤ bt ∧ bt ≤ 100000) && confOf c)))) := by
    obtain ⟨K, hK⟩ := impl_ConfOk.ev c (by omega)
    dsimp only at hK
    refine ⟨K + 1, fun k hk => ?_⟩
    obtain ⟨k, rfl⟩ : ∃ m, k = m + 1 := ⟨k - 1, by omega⟩
    show impl_ManifestOk.l0 (k + 1) _ _ _ _ _ _ _ _ = _
    rw [impl_ManifestOk.l0, if_neg (by omega), hK k (by omega)]
    simp only [impl_within.is, Option.bind_some]
    by_cases h1 : 1 ≤ (l.length : Int) ∧ (l.length : Int) ≤ 8 <;> by_cases h2 : next ≤ 1000 <;> by_cases h3 : 0 ≤ base ∧ base ≤ 100000 <;> by_cases h4 : 0 ≤ bt ∧ bt ≤ 100000 <;> simp [h1, h2, h3, h4]
  obtain ⟨K, h⟩ := loop_all (F := fun k i => impl_ManifestOk.l0 k l (l.length : Int) (i : Int) l next base bt c) (fun k i hi => impl_ManifestOk.step l next base bt c hs k i hi) stop l.length 0 (by omega)
  exact ⟨K, fun k hk => h k hk⟩
theorem impl_SumMore.ev1 (l : List UInt8) (i : Nat) (hi : i < l.length) (hs : l.length ≤ 140737488351232) (r : Int) (d : Nat) :
    ∀ (x j : Nat), x < 4294967296 → j + d = 8 → Ev (fun k => impl_SumMore.l0 k ((crcBits d x : Nat) : Int) (mk l) ((i + 1 : Nat) : Int)) r → Ev (fun k => impl_SumMore.l1 k (x : Int) (mk l) (i : Int) (j : Int)) r := by
  induction d with
  | zero =>
    intro x j hx hj h
    refine Ev.step (fun k => ?_) h
    show impl_SumMore.l1 (k + 1) _ _ _ _ = _
    rw [impl_SumMore.l1]
    rw [if_neg (by omega), w64 (by omega) (by omega)]
    rfl
  | succ d ih =>
    intro x j hx hj h
    refine Ev.step (fun k => ?_) (ih (crcBit x) (j + 1) (crcBit_lt hx) (by omega) h)
    show impl_SumMore.l1 (k + 1) _ _ _ _ = _
    rw [impl_SumMore.l1]
    have e1 : Int.tmod (x : Int) 2 = ((x % 2 : Nat) : Int) := tmod_nat x 2
    have e2 : Int.tdiv (x : Int) 2 = ((x / 2 : Nat) : Int) := tdiv_nat x 2
    rw [if_pos (by omega), w64 (x := (j : Int) + 1) (by omega) (by omega), e1, e2, show ((x / 2 : Nat) : Int) % 4294967296 = ((x / 2 : Nat) : Int) by omega]
    unfold crcBit
    by_cases hb : x % 2 = 1
    · rw [if_pos (by omega), if_pos hb, show (3558460437 : Int) = ((3558460437 : Nat) : Int) from rfl, u32_xor_nat _ _ (by omega) (by omega)]
      rfl
    · rw [if_neg (by omega), if_neg hb]
      rfl
theorem impl_SumMore.ev0 (l : List UInt8) (hs : l.length ≤ 140737488351232) (d : Nat) :
    ∀ (i x : Nat), x < 4294967296 → i + d = l.length → Ev (fun k => impl_SumMore.l0 k (x : Int) (mk l) (i : Int)) ((crcL x (l.drop i) : Nat) : Int) := by
  have hsz := mk_size l
  induction d with
  | zero =>
    intro i x hx hi
    refine ⟨1, fun k hk => ?_⟩
    obtain ⟨k, rfl⟩ : ∃ m, k = m + 1 := ⟨k - 1, by omega⟩
    show impl_SumMore.l0 (k + 1) _ _ _ = _
    rw [impl_SumMore.l0]
    rw [if_neg (by omega), List.drop_eq_nil_of_le (by omega)]
    rfl
  | succ d ih =>
    intro i x hx hi
    have hlt : i < l.length := by omega
    have hb : (l[i]).toNat < 256 := (l[i]).toNat_lt
    have hx2 : x ^^^ (l[i]).toNat < 4294967296 := xor_lt32 hx (by omega)
    rw [drop_cons l i hlt, crcL_cons]
    refine Ev.step (fun k => ?_) (impl_SumMore.ev1 l i hlt hs _ 8 (x ^^^ (l[i]).toNat) 0 hx2 (by omega) (ih (i + 1) _ (crcBits_lt 8 hx2) (by omega)))
    show impl_SumMore.l0 (k + 1) _ _ _ = _
    rw [impl_SumMore.l0]
    rw [if_pos (by omega), if_pos (by omega), bt_mk l i hlt, show (((l[i]).toNat : Nat) : Int) % 4294967296 = ((l[i]).toNat : Int) by omega, u32_xor_nat _ _ hx (by omega)]
    rfl
theorem impl_SumMore.ev (l : List UInt8) (hs : l.length ≤ 140737488351232) (x : Nat) (hx : x < 4294967296) : Ev (fun k => impl_SumMore.f k (x : Int) (mk l)) ((crcL x l : Nat) : Int) :=
  impl_SumMore.ev0 l hs l.length 0 x hx (by omega)
theorem impl_SumOf.ev (l : List UInt8) (hs : l.length ≤ 140737488351232) : Ev (fun k => impl_SumOf.f k (mk l)) ((crc l : Nat) : Int) := by
  obtain ⟨K, h⟩ := impl_SumMore.ev l hs 4294967295 (by omega)
  dsimp only at h
  refine ⟨K, fun k hk => ?_⟩
  show impl_SumOf.f k _ = _
  unfold impl_SumOf.f
  rw [show (4294967295 : Int) = ((4294967295 : Nat) : Int) from rfl, h k hk]
  rfl
theorem impl_Sealed.ev (l : List UInt8) (hs : l.length ≤ 140737488351232) : Ev (fun k => impl_Sealed.f k (mk l)) (sealOf l) := by
  have hsz := mk_size l
  unfold sealOf
  obtain ⟨K, h⟩ := impl_SumOf.ev l hs
  dsimp only at h
  refine ⟨K, fun k hk => ?_⟩
  show impl_Sealed.f k _ = _
  unfold impl_Sealed.f
  by_cases hc : l.length ≤ 20000
  · rw [if_neg (by omega), if_pos hc, h k hk, Option.bind_some, Option.bind_some, four_nm, strOf_nm, if_pos (by rw [mk_size, mk_size, four_len]; omega), mk_append]
  · rw [if_pos (by omega), if_neg hc]
    rfl
theorem impl_ManifestText.ev (l : List Int) (next base bt : Int) (c : List Int) (hs : l.length ≤ 1048576) (hc : c.length ≤ 1048576) : Ev (fun k => impl_ManifestText.f k l next base bt c) (manTextOf l next base bt c) := by
  obtain ⟨K0, h0⟩ := impl_ManifestOk.ev l next base bt c hs hc
  dsimp only at h0
  unfold manTextOf
  by_cases hb : manOf l next base bt c = true
  · obtain ⟨a1, a2, a3, a4, a5, a6, a7, a8, a9, b1, b2, b3⟩ := manOf_small hb
    have hfl : ([([(l.length : Int)] : List Int), l, ([next, base, bt, (c.length : Int)] : List Int), c] : List (List Int)).flatten = (l.length : Int) :: (l ++ (next :: base :: bt :: (c.length : Int) :: c)) := by simp
    have hln : ((l.length : Int) :: (l ++ (next :: base :: bt :: (c.length : Int) :: c))).length ≤ 20 := by simp; omega
    have hmm : ∀ x ∈ ((l.length : Int) :: (l ++ (next :: base :: bt :: (c.length : Int) :: c))), 0 ≤ x ∧ x ≤ 1000000000 := by
      intro x hx
      simp only [List.mem_cons, List.mem_append] at hx
      rcases hx with rfl | hx | rfl | rfl | rfl | rfl | hx
      · omega
      · have := a3 x hx; omega
      · omega
      · omega
      · omega
      · omega
      · have := b3 x hx; omega
    have hvl := vts_len _ hmm
    have hmt : vts ((l.length : Int) :: (l ++ (next :: base :: bt :: (c.length : Int) :: c))) = manT l next base bt c := by
      simp only [vts, vts_append, manT, Int.toNat_natCast, List.append_assoc]
    obtain ⟨K1, h1⟩ := slices_Concat_int_int.ev [([(l.length : Int)] : List Int), l, ([next, base, bt, (c.length : Int)] : List Int), c] (by simp) (by rw [hfl]; simp) (by rw [hfl]; omega)
    obtain ⟨K2, h2⟩ := impl_vars.ev0 ((l.length : Int) :: (l ++ (next :: base :: bt :: (c.length : Int) :: c))) (by omega) hmm impl_VarText.ev ((l.length : Int) :: (l ++ (next :: base :: bt :: (c.length : Int) :: c))).length 0 [] (by omega) (by simp)
    obtain ⟨K3, h3⟩ := impl_Sealed.ev (manT l next base bt c) (by rw [← hmt]; omega)
    dsimp only at h1 h2 h3
    refine ⟨K0 + K1 + K2 + K3, fun k hk => ?_⟩
    show impl_ManifestText.f k _ _ _ _ _ = _
    have h2' : impl_vars.f k ((l.length : Int) :: (l ++ (next :: base :: bt :: (c.length : Int) :: c))) = some (mk (manT l next base bt c), true) := by
      have h4 := h2 k (by omega)
      rw [List.drop_zero, List.nil_append, hmt] at h4
      exact h4
    unfold impl_ManifestText.f
    rw [h0 k (by omega), Option.bind_some, if_pos hb, h1 k (by omega), Option.bind_some, hfl, if_pos hb, h2', Option.bind_some, h3 k (by omega)]
    rfl
  · refine ⟨K0, fun k hk => ?_⟩
    show impl_ManifestText.f k _ _ _ _ _ = _
    unfold impl_ManifestText.f
    rw [h0 k (by omega), Option.bind_some, if_neg hb, if_neg hb]
    rfl

theorem shl_digit (m i : Nat) (h : i ≤ 4) : shl .i64 ((m % 128 : Nat) : Int) (wrap64 (7 * (i : Int))) = ((dg m i : Nat) : Int) := by
  have e : ∀ j : Nat, j ≤ 28 → shl .i64 ((m % 128 : Nat) : Int) (j : Int) = ((m % 128 : Nat) : Int) * 2 ^ j := by
    intro j hj
    unfold shl
    rw [Int.toNat_natCast, Nat.min_eq_left (show j ≤ IntKind.i64.bits by simp [IntKind.bits]; omega), IntKind.wrap_i64]
    have h2 : 2 ^ j ≤ 2 ^ 28 := Nat.pow_le_pow_right (by omega) hj
    have h4 : m % 128 * 2 ^ j ≤ 127 * 268435456 := Nat.mul_le_mul (by omega) h2
    have h5 : ((m % 128 : Nat) : Int) * 2 ^ j = ((m % 128 * 2 ^ j : Nat) : Int) := by rw [Int.natCast_mul, Int.natCast_pow]; rfl
    rw [h5]
    omega
  rw [w64 (by omega) (by omega), show (7 : Int) * (i : Int) = ((7 * i : Nat) : Int) by omega, e (7 * i) (by omega)]
  unfold dg pw
  rw [Int.natCast_mul, Int.natCast_pow, show (128 : Nat) = 2 ^ 7 from rfl, Int.natCast_pow, ← Int.pow_mul]
  rfl
theorem impl_ReadVar.ev0 (l : List UInt8) (a : Nat) (ha : a ≤ l.length) (hs : l.length ≤ 140737488351232) (f : Nat) : ∀ (i n0 : Nat), i + f = 5 → a + i ≤ l.length → n0 < pw i →
    Ev (fun k => impl_ReadVar.l0 k (mk l) (a : Int) (n0 : Int) (i : Int)) (rvFin a (lebOn n0 i (leb f (l.drop (a + i))))) := by
  have hsz := mk_size l
  induction f with
  | zero =>
    intro i n0 hi hal hn
    refine ⟨2, fun k hk => ?_⟩
    obtain ⟨k, rfl⟩ : ∃ m, k = m + 2 := ⟨k - 2, by omega⟩
    show impl_ReadVar.l0 (k + 2) _ _ _ _ = _
    rw [impl_ReadVar.l0, if_neg (by omega), impl_ReadVar.j1, if_neg (by simp)]
    rfl
  | succ f ih =>
    intro i n0 hi hal hn
    have hp := pw_le5 (i := i) (by omega)
    have ew : Hd (wrap64 ((a : Int) + (i : Int)) = ((a + i : Nat) : Int)) := Hd.mk <| by rw [w64 (by omega) (by omega)]; omega
    by_cases hlt : a + i < l.length
    · have hb : (l[a + i]).toNat < 256 := (l[a + i]).toNat_lt
      have eb : Hd (wrap64 (bt (mk l) ((a + i : Nat) : Int)) = ((l[a + i]).toNat : Int)) := Hd.mk <| by rw [bt_mk l _ hlt, w64 (by omega) (by omega)]
      have e1 : Hd (Int.tmod ((l[a + i]).toNat : Int) 128 = (((l[a + i]).toNat % 128 : Nat) : Int)) := Hd.mk <| tmod_nat _ 128
      have hd := dg_le (l[a + i]).toNat i (by omega)
      have e2 := shl_digit (l[a + i]).toNat i (by omega)
      have e3 : Hd (wrap64 ((n0 : Int) + ((dg (l[a + i]).toNat i : Nat) : Int)) = ((n0 + dg (l[a + i]).toNat i : Nat) : Int)) := Hd.mk <| by rw [w64 (by omega) (by omega)]; omega
      rw [drop_cons l (a + i) hlt]
      by_cases h128 : (l[a + i]).toNat < 128
      · rw [lebOn_last _ _ _ _ _ h128]
        obtain ⟨K, hK⟩ := impl_VarText.ev ((n0 + dg (l[a + i]).toNat i : Nat) : Int)
        dsimp only at hK
        refine ⟨K + 2, fun k hk => ?_⟩
        obtain ⟨k, rfl⟩ : ∃ m, k = m + 2 := ⟨k - 2, by omega⟩
        show impl_ReadVar.l0 (k + 2) _ _ _ _ = _
        rw [impl_ReadVar.l0, if_pos (by omega), ew.out, decide_eq_true (show ((a + i : Nat) : Int) < ((mk l).size : Int) by omega), impl_ReadVar.j1, if_pos rfl, ew.out, if_pos (by omega), if_pos (by omega),
          if_pos (by rw [w64 (by omega) (by omega)]; omega), eb.out, if_pos (by omega), e1.out, e2, e3.out, hK k (by omega), Option.bind_some]
        unfold varOf
        simp only [rvFin]
        by_cases hm : n0 + dg (l[a + i]).toNat i ≤ 1000000000
        · rw [if_pos (show 0 ≤ ((n0 + dg (l[a + i]).toNat i : Nat) : Int) ∧ ((n0 + dg (l[a + i]).toNat i : Nat) : Int) ≤ 1000000000 by omega)]
          simp only [if_true]
          rw [Int.toNat_natCast, mk_size, w64 (x := (i : Int) + 1) (by omega) (by omega)]
          by_cases hv : (vt (n0 + dg (l[a + i]).toNat i)).length = i + 1
          · rw [if_pos (by omega), if_pos ⟨hm, hv⟩, w64 (by omega) (by omega)]
            rfl
          · rw [if_neg (by omega), if_neg (fun h => hv h.2)]
        · rw [if_neg (show ¬ (0 ≤ ((n0 + dg (l[a + i]).toNat i : Nat) : Int) ∧ ((n0 + dg (l[a + i]).toNat i : Nat) : Int) ≤ 1000000000) by omega)]
          dsimp only
          rw [if_neg (by simp), if_neg (fun h => hm h.1)]
      · rw [lebOn_step _ _ _ _ _ h128]
        have hp2 : n0 + dg (l[a + i]).toNat i < pw (i + 1) := dg_lt hn
        obtain ⟨K, hK⟩ := ih (i + 1) _ (by omega) (by omega) hp2
        dsimp only at hK
        refine ⟨K + 2, fun k hk => ?_⟩
        obtain ⟨k, rfl⟩ : ∃ m, k = m + 2 := ⟨k - 2, by omega⟩
        show impl_ReadVar.l0 (k + 2) _ _ _ _ = _
        rw [impl_ReadVar.l0, if_pos (by omega), ew.out, decide_eq_true (show ((a + i : Nat) : Int) < ((mk l).size : Int) by omega), impl_ReadVar.j1, if_pos rfl, ew.out, if_pos (by omega), if_pos (by omega),
          if_pos (by rw [w64 (by omega) (by omega)]; omega), eb.out, if_neg (by omega), e1.out, e2, e3.out, w64 (x := (i : Int) + 1) (by omega) (by omega)]
        exact hK k (by omega)
    · rw [List.drop_eq_nil_of_le (by omega)]
      refine ⟨2, fun k hk => ?_⟩
      obtain ⟨k, rfl⟩ : ∃ m, k = m + 2 := ⟨k - 2, by omega⟩
      show impl_ReadVar.l0 (k + 2) _ _ _ _ = _
      rw [impl_ReadVar.l0, if_pos (by omega), ew.out, decide_eq_false (show ¬ ((a + i : Nat) : Int) < ((mk l).size : Int) by omega), impl_ReadVar.j1, if_neg (by simp)]
      rfl
theorem impl_ReadVar.ev (l : List UInt8) (hs : l.length ≤ 140737488351232) (a : Int) : Ev (fun k => impl_ReadVar.f k (mk l) a) (rvOf l a) := by
  have hsz := mk_size l
  unfold rvOf
  by_cases h : 0 ≤ a ∧ a ≤ l.length
  · obtain ⟨n, rfl⟩ := Int.eq_ofNat_of_zero_le h.1
    obtain ⟨K, hK⟩ := impl_ReadVar.ev0 l n (by omega) hs 5 0 0 (by omega) (by omega) (pw_pos 0)
    rw [lebOn_zero] at hK
    dsimp only at hK
    refine ⟨K, fun k hk => ?_⟩
    show impl_ReadVar.f k _ _ = _
    unfold impl_ReadVar.f
    rw [hsz, impl_within.is, decide_eq_true h, if_pos h]
    exact hK k hk
  · refine ⟨0, fun k hk => ?_⟩
    show impl_ReadVar.f k _ _ = _
    unfold impl_ReadVar.f
    rw [hsz, impl_within.is, decide_eq_false h, if_neg h]
    rfl
theorem impl_reader_num.ev (l : List UInt8) (hs : l.length ≤ 140737488351232) (a : Nat) (b : Bool) : Ev (fun k => impl_reader_num.f k (mk l) (a : Int) b) ((nmOf l a b).1, mk l, ((nmOf l a b).2.1 : Int), (nmOf l a b).2.2) := by
  obtain ⟨K, h⟩ := impl_ReadVar.ev l hs (a : Int)
  dsimp only at h
  refine ⟨K, fun k hk => ?_⟩
  show impl_reader_num.f k _ _ _ = _
  unfold impl_reader_num.f
  rw [h k hk, Option.bind_some]
  cases b with
  | true => rfl
  | false =>
    rw [if_neg (by simp)]
    by_cases hr : (rvOf l (a : Int)).2.2 = true
    · obtain ⟨n, c, at_', h1, h2, _⟩ := rvOf_facts l (a : Int) hr
      rw [if_pos hr]
      unfold nmOf
      rw [if_neg (by simp), if_pos hr, h2]
      rfl
    · rw [if_neg hr]
      unfold nmOf
      rw [if_neg (by simp), if_neg hr]

theorem rdE.ev0 (l : List UInt8) (hs : l.length ≤ 140737488351232) (n : Nat) (hn : n ≤ 1000000000) (d : Nat) : ∀ (i a : Nat) (b : Bool) (xs : List Int), i + d = n → xs.length = i →
    Ev (fun k => rdE.l0 k (n : Int) (i : Int) (mk l) (a : Int) b xs) (mk l, ((rdn l d a b).2.1 : Int), (rdn l d a b).2.2, xs ++ (rdn l d a b).1) := by
  induction d with
  | zero =>
    intro i a b xs hi hx
    refine ev_now fun k => ?_
    show rdE.l0 (k + 1) _ _ _ _ _ _ = _
    rw [rdE.l0, if_neg (by omega)]
    simp only [rdn, List.append_nil]
  | succ d ih =>
    intro i a b xs hi hx
    cases b with
    | true =>
      refine ev_now fun k => ?_
      show rdE.l0 (k + 1) _ _ _ _ _ _ = _
      rw [rdE.l0, if_pos (by omega), if_pos rfl, rdn_bad, List.append_nil]
    | false =>
      obtain ⟨K1, h1⟩ := impl_reader_num.ev l hs a false
      obtain ⟨K2, h2⟩ := ih (i + 1) (nmOf l a false).2.1 (nmOf l a false).2.2 (xs ++ [(nmOf l a false).1]) (by omega) (by simp; omega)
      dsimp only at h1 h2
      have ew : Hd (wrap64 ((i : Int) + 1) = ((i + 1 : Nat) : Int)) := Hd.mk <| by rw [w64 (by omega) (by omega)]; rfl
      refine ⟨K1 + K2 + 1, fun k hk => ?_⟩
      obtain ⟨k, rfl⟩ : ∃ m, k = m + 1 := ⟨k - 1, by omega⟩
      show rdE.l0 (k + 1) _ _ _ _ _ _ = _
      rw [rdE.l0, if_pos (by omega), if_neg (by simp), h1 k (by omega), Option.bind_some, if_pos (by omega), ew.out]
      dsimp only
      rw [h2 k (by omega), rdn, if_neg (by simp), List.append_assoc]
      rfl
theorem rdE.ev (l : List UInt8) (hs : l.length ≤ 140737488351232) (a : Nat) (ha : a ≤ l.length) (b : Bool) (r : Int × Nat × Bool) (hr : r = nmOf l a b) (q : List Int × Nat × Bool) (hq : q = rdn l r.1.toNat r.2.1 r.2.2) :
    Ev (fun k => rdE.f k (mk l) (a : Int) b) (mk l, (q.2.1 : Int), q.2.2, q.1) := by
  obtain ⟨K1, h1⟩ := impl_reader_num.ev l hs a b
  obtain ⟨n, h2, h3, _⟩ := nmOf_rng l a b ha
  obtain ⟨K2, h4⟩ := rdE.ev0 l hs n h3 n 0 (nmOf l a b).2.1 (nmOf l a b).2.2 [] (by omega) rfl
  dsimp only at h1 h4
  refine ⟨K1 + K2, fun k hk => ?_⟩
  show rdE.f k _ _ _ = _
  unfold rdE.f
  rw [h1 k (by omega), Option.bind_some]
  dsimp only
  rw [h2]
  have h5 := h4 k (by omega)
  rw [show ((0 : Nat) : Int) = 0 from rfl] at h5
  rw [h5, hq, hr, h2, Int.toNat_natCast, List.nil_append]

theorem impl_Unsealed.ev (l : List UInt8) (hs : l.length ≤ 140737488351232) : Ev (fun k => impl_Unsealed.f k (mk l)) (unsealOf l) := by
  have hsz := mk_size l
  unfold unsealOf
  obtain ⟨K, h⟩ := impl_Sealed.ev (l.take (l.length - 4)) (by simp; omega)
  dsimp only at h
  refine ⟨K, fun k hk => ?_⟩
  show impl_Unsealed.f k _ = _
  unfold impl_Unsealed.f
  by_cases h4 : 4 ≤ l.length
  · rw [unseal_w l h4 hs, unseal_cut, if_neg (by omega), if_pos (by omega), if_pos (by omega), h k hk, Option.bind_some]
    have hlt : (l.take (l.length - 4)).length = l.length - 4 := by simp
    unfold sealOf
    by_cases hm : l.length ≤ 20004
    · rw [if_pos (show (l.take (l.length - 4)).length ≤ 20000 by omega)]
      have e : (mk (l.take (l.length - 4) ++ four (crc (l.take (l.length - 4))))).toList = (mk l).toList ↔ l.drop (l.length - 4) = four (crc (l.take (l.length - 4))) := by
        rw [mk_toList, mk_toList]
        conv => lhs; rhs; rw [← List.take_append_drop (l.length - 4) l]
        constructor
        · intro h'
          exact (List.append_cancel_left h').symm
        · intro h'
          rw [h']
      simp only [if_true]
      by_cases hd : l.drop (l.length - 4) = four (crc (l.take (l.length - 4)))
      · rw [if_pos (e.2 hd), if_pos ⟨h4, hm, hd⟩]
      · rw [if_neg (fun h' => hd (e.1 h')), if_neg (fun h' => hd h'.2.2)]
        rfl
    · rw [if_neg (show ¬ (l.take (l.length - 4)).length ≤ 20000 by omega), if_neg (show ¬ (4 ≤ l.length ∧ l.length ≤ 20004 ∧ l.drop (l.length - 4) = four (crc (l.take (l.length - 4)))) from fun h' => hm h'.2.1)]
      rfl
  · rw [if_pos (by omega), if_neg (fun h' => h4 h'.1)]
    rfl
theorem impl_ReadManifest.ev (t : List UInt8) (ht : t.length ≤ 1048576) : Ev (fun k => impl_ReadManifest.f k (mk t)) (implMan t) := by
  have hl := unsL_len t
  obtain ⟨K0, h0⟩ := impl_Unsealed.ev t (by omega)
  dsimp only at h0
  rw [unsealOf_L] at h0
  unfold implMan
  generalize (unsL t).1 = l at *
  generalize (unsL t).2 = ok at *
  have hs : l.length ≤ 140737488351232 := by omega
  cases ok with
  | false =>
    rw [if_neg (by simp)]
    refine ⟨K0, fun k hk => ?_⟩
    show impl_ReadManifest.f k _ = _
    unfold impl_ReadManifest.f
    rw [h0 k (by omega), Option.bind_some, if_neg (by simp)]
    rfl
  | true =>
    rw [if_pos rfl]
    unfold rdMan rdTail
    dsimp only [id]
    obtain ⟨m0, e0, f0, l0⟩ := nmOf_rng l 0 false (Nat.zero_le _)
    obtain ⟨K1, h1⟩ := rdE.ev l hs 0 (Nat.zero_le _) false _ rfl _ rfl
    generalize nmOf l 0 false = r0 at *
    have lq0 := rdn_rng l r0.1.toNat r0.2.1 r0.2.2 l0
    have sq0 : (rdn l r0.1.toNat r0.2.1 r0.2.2).1.length ≤ 20000 ∨ (rdn l r0.1.toNat r0.2.1 r0.2.2).1.length ≤ 1048576 := by
      exact rdn_small l hl r0.1.toNat r0.2.1 r0.2.2 l0
    generalize rdn l r0.1.toNat r0.2.1 r0.2.2 = q0 at *
    obtain ⟨_, _, _, l1⟩ := nmOf_rng l q0.2.1 q0.2.2 lq0
    obtain ⟨K2, h2⟩ := impl_reader_num.ev l hs q0.2.1 q0.2.2
    generalize nmOf l q0.2.1 q0.2.2 = r1 at *
    obtain ⟨_, _, _, l2⟩ := nmOf_rng l r1.2.1 r1.2.2 l1
    obtain ⟨K3, h3⟩ := impl_reader_num.ev l hs r1.2.1 r1.2.2
    generalize nmOf l r1.2.1 r1.2.2 = r2 at *
    obtain ⟨_, _, _, l3⟩ := nmOf_rng l r2.2.1 r2.2.2 l2
    obtain ⟨K4, h4⟩ := impl_reader_num.ev l hs r2.2.1 r2.2.2
    generalize nmOf l r2.2.1 r2.2.2 = r3 at *
    obtain ⟨m4, e4, f4, l4⟩ := nmOf_rng l r3.2.1 r3.2.2 l3
    obtain ⟨K5, h5⟩ := rdE.ev l hs r3.2.1 l3 r3.2.2 _ rfl _ rfl
    generalize nmOf l r3.2.1 r3.2.2 = r4 at *
    have lq4 := rdn_rng l r4.1.toNat r4.2.1 r4.2.2 l4
    have sq4 := rdn_small l hl r4.1.toNat r4.2.1 r4.2.2 l4
    generalize rdn l r4.1.toNat r4.2.1 r4.2.2 = q4 at *
    obtain ⟨K6, h6⟩ := impl_ManifestOk.ev q0.1 r1.1 r2.1 r3.1 q4.1 (by omega) (by omega)
    dsimp only at h1 h2 h3 h4 h5 h6
    have hsz := mk_size l
    refine ⟨K0 + K1 + K2 + K3 + K4 + K5 + K6, fun k hk => ?_⟩
    show impl_ReadManifest.f k _ = _
    unfold impl_ReadManifest.f
    have h1' := h1 k (by omega)
    rw [show ((0 : Nat) : Int) = 0 from rfl] at h1'
    rw [h0 k (by omega), Option.bind_some, if_pos rfl, h1', Option.bind_some]
    dsimp only
    rw [h2 k (by omega), Option.bind_some]
    dsimp only
    rw [h3 k (by omega), Option.bind_some]
    dsimp only
    rw [h4 k (by omega), Option.bind_some]
    dsimp only
    rw [h5 k (by omega), Option.bind_some]
    dsimp only
    unfold impl_reader_done.f implFin
    dsimp only
    by_cases hb : q4.2.2 = true
    · rw [if_pos hb, Option.bind_some, if_neg (by simp), if_neg (by rw [hb]; simp)]
      rfl
    · have hb' : q4.2.2 = false := Bool.eq_false_iff.2 hb
      rw [if_neg hb, Option.bind_some]
      by_cases ha : q4.2.1 = l.length
      · rw [if_pos (by rw [beq_iff_eq]; omega), if_pos ⟨hb', ha⟩, h6 k (by omega), Option.bind_some]
        by_cases hm : manOf q0.1 r1.1 r2.1 r3.1 q4.1 = true
        · rw [if_pos hm, if_pos hm]
        · rw [if_neg hm, if_neg hm]
          rfl
      · rw [if_neg (by rw [beq_iff_eq]; omega), if_neg (fun h => ha h.2)]
        rfl

theorem spec_l01In.is (a lo hi : Int) : spec_l01In.f a lo hi = some (decide (lo ≤ a ∧ a ≤ hi)) := by
  unfold spec_l01In.f
  by_cases h : a ≥ lo
  · rw [if_pos h]
    congr 1
    simp only [decide_eq_decide]
    exact ⟨fun h' => ⟨h, h'⟩, fun h' => h'.2⟩
  · rw [if_neg h, decide_eq_false (fun h' => h h'.1)]
theorem spec_l07Rise.ev0 (l : List Int) (lw hg : Int) (hs : l.length ≤ 17592186043904) (d : Nat) : ∀ (i : Nat), i + d = l.length →
    Ev (fun k => spec_l07Rise.l0 k l lw hg (i : Int)) (allF (riseC l lw hg) d i) := by
  induction d with
  | zero =>
    intro i hi
    refine ev_now fun k => ?_
    show spec_l07Rise.l0 (k + 1) _ _ _ _ = _
    rw [spec_l07Rise.l0, if_neg (by omega)]
    rfl
  | succ d ih =>
    intro i hi
    have e0 : rd l (i : Int) = l.getD i 0 := rfl
    by_cases h1 : lw ≤ l.getD i 0 ∧ l.getD i 0 ≤ hg
    · by_cases h2 : i = 0
      · have hC : riseC l lw hg i = true := by simp only [riseC, decide_eq_true h1, decide_eq_true h2, Bool.true_or, Bool.and_true]
        simp only [allF, hC, Bool.true_and]
        refine Ev.step (fun k => ?_) (ih (i + 1) (by omega))
        show spec_l07Rise.l0 (k + 1) _ _ _ _ = spec_l07Rise.l0 k _ _ _ _
        rw [spec_l07Rise.l0, if_pos (by omega), if_pos (by omega), spec_l01In.is, e0, decide_eq_true h1]
        simp only [Option.bind_some, if_true]
        rw [if_neg (by omega), w64 (by omega) (by omega)]
        rfl
      · have e1 : rd l (wrap64 ((i : Int) - 1)) = l.getD (i - 1) 0 := by
          rw [w64 (by omega) (by omega), show (i : Int) - 1 = ((i - 1 : Nat) : Int) by omega, rd_nat]
        have e2 : wrap64 ((i : Int) - 1) = ((i - 1 : Nat) : Int) := by rw [w64 (by omega) (by omega)]; omega
        by_cases h3 : l.getD (i - 1) 0 < l.getD i 0
        · have hC : riseC l lw hg i = true := by simp only [riseC, decide_eq_true h1, decide_eq_true h3, Bool.or_true, Bool.and_true]
          simp only [allF, hC, Bool.true_and]
          refine Ev.step (fun k => ?_) (ih (i + 1) (by omega))
          show spec_l07Rise.l0 (k + 1) _ _ _ _ = spec_l07Rise.l0 k _ _ _ _
          rw [spec_l07Rise.l0, if_pos (by omega), if_pos (by omega), spec_l01In.is, e0, decide_eq_true h1]
          simp only [Option.bind_some, if_true]
          rw [if_pos (by omega), if_pos (by omega), if_pos (by omega), e1, if_neg (by omega), w64 (x := (i : Int) + 1) (by omega) (by omega)]
          rfl
        · have hC : riseC l lw hg i = false := by simp only [riseC, decide_eq_true h1, decide_eq_false h3, decide_eq_false h2, Bool.or_false, Bool.and_false]
          simp only [allF, hC, Bool.false_and]
          refine ev_now fun k => ?_
          show spec_l07Rise.l0 (k + 1) _ _ _ _ = _
          rw [spec_l07Rise.l0, if_pos (by omega), if_pos (by omega), spec_l01In.is, e0, decide_eq_true h1]
          simp only [Option.bind_some, if_true]
          rw [if_pos (by omega), if_pos (by omega), if_pos (by omega), e1, if_pos (by omega)]
    · have hC : riseC l lw hg i = false := by simp only [riseC, decide_eq_false h1, Bool.false_and]
      simp only [allF, hC, Bool.false_and]
      refine ev_now fun k => ?_
      show spec_l07Rise.l0 (k + 1) _ _ _ _ = _
      rw [spec_l07Rise.l0, if_pos (by omega), if_pos (by omega), spec_l01In.is, e0, decide_eq_false h1]
      simp
theorem spec_ConfOk.ev (l : List Int) (hs : l.length ≤ 17592186043904) : Ev (fun k => spec_ConfOk.f k l) (confOf l) := by
  obtain ⟨K, h⟩ := spec_l07Rise.ev0 l 1 4 hs l.length 0 (by omega)
  dsimp only at h
  refine ⟨K, fun k hk => ?_⟩
  show spec_ConfOk.f k _ = _
  unfold spec_ConfOk.f spec_l07Rise.f confOf
  rw [spec_l01In.is]
  by_cases hc : 1 ≤ (l.length : Int) ∧ (l.length : Int) ≤ 4
  · rw [decide_eq_true hc]
    simp only [Option.bind_some, if_true]
    have := h k hk
    rw [show ((0 : Nat) : Int) = 0 from rfl] at this
    rw [this]
    simp
  · rw [decide_eq_false hc]
    simp
theorem rise_man (l : List Int) (next : Int) (h0 : 0 ≤ next) (h1 : next ≤ 1000) : allF (riseC l 0 (next - 1)) l.length 0 = allF (manC l next) l.length 0 := by
  refine allF_congr l.length 0 fun j _ _ => ?_
  unfold riseC manC
  generalize l.getD j 0 = x
  generalize l.getD (j - 1) 0 = y
  by_cases h2 : 0 ≤ x ∧ x ≤ next - 1
  · rw [decide_eq_true h2, decide_eq_true (show 0 ≤ x ∧ x ≤ 999 by omega), decide_eq_true (show ¬ x ≥ next by omega), Bool.true_and, Bool.true_and, Bool.true_and]
    congr 1
    rw [decide_eq_decide]
    omega
  · rw [decide_eq_false h2, Bool.false_and]
    by_cases h3 : 0 ≤ x ∧ x ≤ 999
    · rw [decide_eq_false (show ¬ ¬ x ≥ next by omega), Bool.and_false, Bool.false_and]
    · rw [decide_eq_false h3, Bool.false_and, Bool.false_and]
theorem man_neg (l : List Int) (next : Int) (h0 : ¬ 0 ≤ next) (hl : 1 ≤ l.length) : allF (manC l next) l.length 0 = false := by
  obtain ⟨d, hd⟩ : ∃ d, l.length = d + 1 := ⟨l.length - 1, by omega⟩
  rw [hd, allF]
  have : manC l next 0 = false := by
    unfold manC
    by_cases h3 : 0 ≤ l.getD 0 0 ∧ l.getD 0 0 ≤ 999
    · rw [decide_eq_false (show ¬ ¬ l.getD 0 0 ≥ next by omega), Bool.and_false, Bool.false_and]
    · rw [decide_eq_false h3, Bool.false_and, Bool.false_and]
  rw [this, Bool.false_and]
theorem spec_ManifestOk.ev (l : List Int) (next base bt : Int) (c : List Int) (hs : l.length ≤ 1048576) (hc : c.length ≤ 1048576) : Ev (fun k => spec_ManifestOk.f k l next base bt c) (manOf l next base bt c) := by
  obtain ⟨K1, h1⟩ := spec_l07Rise.ev0 l 0 (next - 1) (by omega) l.length 0 (by omega)
  obtain ⟨K2, h2⟩ := spec_ConfOk.ev c (by omega)
  dsimp only at h1 h2
  refine ⟨K1 + K2, fun k hk => ?_⟩
  show spec_ManifestOk.f k _ _ _ _ _ = _
  unfold spec_ManifestOk.f spec_l07Rise.f manOf
  by_cases g1 : 1 ≤ (l.length : Int) ∧ (l.length : Int) ≤ 8
  · by_cases g2 : 0 ≤ next ∧ next ≤ 1000
    · have := h1 k (by omega)
      rw [show ((0 : Nat) : Int) = 0 from rfl, rise_man l next g2.1 g2.2] at this
      rw [w64 (x := next - 1) (by omega) (by omega), this, h2 k (by omega)]
      simp only [spec_l01In.is, Option.bind_some]
      generalize allF (manC l next) l.length 0 = b
      have g2' : next ≤ 1000 := g2.2
      by_cases h3 : 0 ≤ base ∧ base ≤ 100000 <;> by_cases h4 : 0 ≤ bt ∧ bt ≤ 100000 <;> cases b <;> simp [g1, g2, g2', h3, h4]
    · rw [spec_l01In.is, spec_l01In.is, decide_eq_true g1, decide_eq_false g2]
      simp only [Option.bind_some, if_true]
      rw [if_neg (by simp)]
      by_cases g3 : next ≤ 1000
      · rw [man_neg l next (by omega) (by omega), Bool.false_and]
      · rw [decide_eq_false g3]
        simp
  · rw [spec_l01In.is, decide_eq_false g1]
    simp
theorem FnManifests : ∀ (l0 : List Int), (l0.length ≤ maxLen ∧ ∀ y ∈ l0, (Lit.int .u8 y).wf = true) → ∃ k, laws_FnManifests.f k l0 = some true := by
  intro l hl
  by_cases hb : (l.length : Int) > 1048576
  · refine ⟨0, ?_⟩
    unfold laws_FnManifests.f laws_big.f
    rw [decide_eq_true hb]
    rfl
  obtain ⟨p, ⟨K1, h1⟩, hp, hp2⟩ := spec_DrawPlaces.ev l (by omega)
  obtain ⟨m, n1, n2, n3, c, ⟨K2, h2⟩, hm, hc⟩ := spec_DrawManifestText.ev l (by omega)
  have hpr : ∀ j : Nat, j < 12 → ∃ x : Nat, rd p (j : Int) = (x : Int) := fun j hj => Int.eq_ofNat_of_zero_le (by
    show 0 ≤ p.getD j 0
    rw [List.getD_eq_getElem?_getD, List.getElem?_eq_getElem (show j < p.length by omega)]
    exact (hp2 _ (List.getElem_mem _)).1)
  obtain ⟨x0, hx0⟩ := hpr 0 (by omega)
  obtain ⟨x1, hx1⟩ := hpr 1 (by omega)
  obtain ⟨K3, h3⟩ := impl_ManifestText.ev m n1 n2 n3 c (by omega) (by omega)
  obtain ⟨K4, h4⟩ := spec_ManifestOk.ev m n1 n2 n3 c (by omega) (by omega)
  dsimp only at h1 h2 h3 h4
  by_cases hk : manOf m n1 n2 n3 c = true
  · have hlen := manT_len hk
    have hback := implMan_back hk
    have e3 : manTextOf m n1 n2 n3 c = (mk (manT m n1 n2 n3 c ++ four (crc (manT m n1 n2 n3 c))), true) := by
      unfold manTextOf sealOf
      rw [if_pos hk, if_pos (by omega)]
    generalize manT m n1 n2 n3 c = s at *
    obtain ⟨t, ht⟩ : ∃ t, t = s ++ four (crc s) := ⟨_, rfl⟩
    have htl : t.length = s.length + 4 := by rw [ht, List.length_append, four_len]
    have hsz := mk_size t
    rw [← ht] at e3 hback
    obtain ⟨y, hy, e5⟩ := turnedOf_mk t x0 x1 (by omega)
    have hil : x0 % t.length < s.length + 4 := by rw [← htl]; exact Nat.mod_lt _ (by omega)
    have e6 : unsealOf (t.set (x0 % t.length) y) = (mk [], false) := by
      rw [ht] at hy hil ⊢
      exact turned_not s (by omega) _ hil y hy
    obtain ⟨K5, h5⟩ := impl_ReadManifest.ev t (by omega)
    obtain ⟨K6, h6⟩ := impl_ReadManifest.ev (t.set (x0 % t.length) y) (by rw [List.length_set]; omega)
    obtain ⟨K7, h7⟩ := laws_sameMan.ev1 m n1 n2 n3 c (by omega) (by omega)
    dsimp only at h5 h6 h7
    rw [hback] at h5
    rw [implMan_no e6] at h6
    rw [hk] at h4
    rw [e3] at h3
    refine ⟨K1 + K2 + K3 + K4 + K5 + K6 + K7 + 1, ?_⟩
    unfold laws_FnManifests.f laws_big.f
    rw [decide_eq_false hb, Option.bind_some, if_neg (by simp), h2 _ (by omega), Option.bind_some]
    dsimp only
    rw [h3 _ (by omega), Option.bind_some]
    dsimp only
    rw [h5 _ (by omega), Option.bind_some]
    dsimp only
    rw [h4 _ (by omega), Option.bind_some, if_neg (by simp), if_pos rfl, if_pos rfl, h7 _ (by omega), Option.bind_some]
    rw [laws_FnManifests.j0, if_neg (by simp), h1 _ (by omega), Option.bind_some, h2 _ (by omega), Option.bind_some]
    dsimp only
    rw [h3 _ (by omega), Option.bind_some]
    dsimp only
    rw [if_pos rfl, if_pos (by omega), if_pos (by omega), show rd p 0 = (x0 : Int) from hx0, show rd p 1 = (x1 : Int) from hx1, if_pos (by omega), if_pos (by omega), e5, h6 _ (by omega), Option.bind_some]
    unfold manNo
    rw [if_neg (by simp)]
  · have hk' := Bool.eq_false_iff.2 hk
    have e3 : manTextOf m n1 n2 n3 c = (mk [], false) := by
      unfold manTextOf
      rw [if_neg hk]
    obtain ⟨K5, h5⟩ := impl_ReadManifest.ev [] (by simp)
    dsimp only at h5
    rw [hk'] at h4
    rw [e3] at h3
    refine ⟨K1 + K2 + K3 + K4 + K5 + 1, ?_⟩
    unfold laws_FnManifests.f laws_big.f
    rw [decide_eq_false hb, Option.bind_some, if_neg (by simp), h2 _ (by omega), Option.bind_some]
    dsimp only
    rw [h3 _ (by omega), Option.bind_some]
    dsimp only
    rw [h5 _ (by omega), Option.bind_some, h4 _ (by omega), Option.bind_some, if_neg (by simp), if_neg (by simp)]
    rw [laws_FnManifests.j0, if_neg (by simp), h1 _ (by omega), Option.bind_some, h2 _ (by omega), Option.bind_some]
    dsimp only
    rw [h3 _ (by omega), Option.bind_some]
    dsimp only
    rw [if_neg (by simp)]

end Go.Proofs.Ytpnncgfmihjlkaa.Pure
