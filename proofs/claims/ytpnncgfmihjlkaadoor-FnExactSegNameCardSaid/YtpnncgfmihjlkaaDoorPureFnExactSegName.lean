/- The law FnExactSegName, over numbers and lists: for every input that the statement speaks of the printed function answers true; conditions: those of the printed statement. -/
import Derived.Test.YtpnncgfmihjlkaaDoorQFnExactSegNamex1
import Derived.Laws.BitsAllLaws
import Derived.Sort.Walk0
import Derived.Lib.Bytealg
namespace Go.Proofs.YtpnncgfmihjlkaaDoor.Pure
open Go.RowKit Go.Proofs.YtpnncgfmihjlkaaDoor.QFnExactSegName Go.Proofs.YtpnncgfmihjlkaaDoorW.PrintWords Go.Proofs.YtpnncgfmihjlkaaDoorW.PrintLast Go.Proofs.YtpnncgfmihjlkaaDoorW.PrintMore
set_option linter.unusedVariables false
set_option linter.unusedSimpArgs false

/-! ### strings as lists of bytes -/
def mk (l : List UInt8) : ByteArray := ⟨l.toArray⟩
def nm (l : List UInt8) : List Int := l.map fun b => (b.toNat : Int)
theorem mk_of (s : ByteArray) : ∃ l, s = mk l := ⟨s.data.toList, rfl⟩
theorem mk_data (l : List UInt8) : (mk l).data.toList = l := rfl
theorem mk_toList (l : List UInt8) : (mk l).toList = l := by rw [ByteArray.toList_eq]; rfl
theorem mk_size (l : List UInt8) : (mk l).size = l.length := List.size_toArray
theorem mk_inj {a b : List UInt8} (h : mk a = mk b) : a = b := by rw [← mk_data a, h]; rfl
theorem mk_append (a b : List UInt8) : mk a ++ mk b = mk (a ++ b) := by
  apply ByteArray.ext
  rw [ByteArray.data_append]
  simp [mk]
theorem mk_extract (l : List UInt8) (i j : Nat) : (mk l).extract i j = mk ((l.drop i).take (j - i)) := by
  apply ByteArray.ext
  rw [ByteArray.data_extract]
  apply Array.ext'
  simp [mk, List.take_drop]
theorem mk_nil : (⟨#[]⟩ : ByteArray) = mk [] := rfl
theorem nm_append (a b : List UInt8) : nm (a ++ b) = nm a ++ nm b := by simp [nm]
theorem nm_length (a : List UInt8) : (nm a).length = a.length := by simp [nm]
theorem nm_nil : ([] : List Int) = nm [] := rfl
theorem strOf_nm (l : List UInt8) : strOfNums (nm l) = mk l := by
  unfold strOfNums nm mk
  rw [List.map_map]
  congr 1
  have : ∀ l : List UInt8, List.map ((fun n : Int => UInt8.ofNat n.toNat) ∘ fun b : UInt8 => (b.toNat : Int)) l = l := by
    intro l
    induction l with
    | nil => rfl
    | cons a l ih => rw [List.map_cons, ih]; simp
  rw [this]
theorem bt_mk (l : List UInt8) (n : Nat) (h : n < l.length) : bt (mk l) (n : Int) = ((l[n]).toNat : Int) := by
  unfold bt
  rw [dif_pos (show (n : Int).toNat < (mk l).size by rw [mk_size]; omega)]
  rfl
/-- A fact that omega doesn't look into. -/
structure Hd (p : Prop) : Prop where
  mk :: (out : p)
theorem w64 {x : Int} (h0 : -9223372036854775808 ≤ x) (h1 : x ≤ 9223372036854775807) : wrap64 x = x := by
  unfold wrap64
  omega
theorem nm_u8 (n : Nat) (h : n < 256) : nm [UInt8.ofNat n] = [(n : Int)] := by
  simp [nm]
  omega
theorem tmod_nat (x d : Nat) : Int.tmod (x : Int) (d : Int) = ((x % d : Nat) : Int) := by
  rw [Int.tmod_eq_emod_of_nonneg (by omega)]
  exact (Int.natCast_emod x d).symm
theorem tdiv_nat (x d : Nat) : Int.tdiv (x : Int) (d : Int) = ((x / d : Nat) : Int) := by
  rw [Int.tdiv_eq_ediv_of_nonneg (by omega)]
  exact (Int.natCast_ediv x d).symm
theorem drop_cons (l : List UInt8) (i : Nat) (h : i < l.length) : l.drop i = l[i] :: l.drop (i + 1) := List.drop_eq_getElem_cons h
theorem lit_u32 {a : Int} (h : (Lit.int .u32 a).wf = true) : 0 ≤ a ∧ a ≤ 4294967295 := by
  simpa [Lit.wf, IntKind.min, IntKind.max, IntKind.signed, IntKind.bits] using h
theorem lit_i64 {a : Int} (h : (Lit.int .i64 a).wf = true) : -9223372036854775808 ≤ a ∧ a ≤ 9223372036854775807 := by
  simpa [Lit.wf, IntKind.min, IntKind.max, IntKind.signed, IntKind.bits] using h
/-- C holds at i, i + 1, .., d of them. -/
def allF (C : Nat → Bool) : Nat → Nat → Bool
  | 0, _ => true
  | d + 1, i => C i && allF C d (i + 1)
theorem allF_congr {C D : Nat → Bool} (d : Nat) : ∀ i, (∀ j, i ≤ j → j < i + d → C j = D j) → allF C d i = allF D d i := by
  induction d with
  | zero => intro i h; rfl
  | succ d ih =>
    intro i h
    simp only [allF]
    rw [h i (by omega) (by omega), ih (i + 1) (fun j h1 h2 => h j (by omega) (by omega))]
theorem allF_true {C : Nat → Bool} (d : Nat) : ∀ i, allF C d i = true ↔ ∀ j, i ≤ j → j < i + d → C j = true := by
  induction d with
  | zero => intro i; simp only [allF, true_iff]; intro j h1 h2; omega
  | succ d ih =>
    intro i
    simp only [allF, Bool.and_eq_true, ih]
    constructor
    · rintro ⟨h1, h2⟩ j h3 h4
      by_cases e : j = i
      · rw [e]; exact h1
      · exact h2 j (by omega) (by omega)
    · intro h
      exact ⟨h i (by omega) (by omega), fun j h1 h2 => h j (by omega) (by omega)⟩
theorem ev_now {α : Type} {g : Nat → Option α} {r : α} (h : ∀ k, g (k + 1) = some r) : Ev g r :=
  ⟨1, fun k hk => by obtain ⟨m, rfl⟩ : ∃ m, k = m + 1 := ⟨k - 1, by omega⟩; exact h m⟩
/-! ### the decimal numeral -/
/-- The digits; none for 0. -/
def dd (u : Nat) : List UInt8 := if u = 0 then [] else Lib.decDigits u
theorem dd_step (u : Nat) (h : u ≠ 0) : dd u = dd (u / 10) ++ [UInt8.ofNat (48 + u % 10)] := by
  unfold dd
  rw [if_neg h, Lib.decDigits]
  by_cases h1 : u < 10
  · rw [dif_pos h1, if_pos (by omega), List.nil_append, Nat.mod_eq_of_lt h1]
  · rw [dif_neg h1, if_neg (by omega)]
theorem dig_str (n : Nat) (h : n < 10) : strOfNums [((48 + n : Nat) : Int)] = mk [UInt8.ofNat (48 + n)] := by
  rw [← nm_u8 _ (by omega), strOf_nm]
theorem tm_pos (n : Nat) : Int.tmod (n : Int) 10 = ((n % 10 : Nat) : Int) ∧ Int.tdiv (n : Int) 10 = ((n / 10 : Nat) : Int) := by
  rw [Int.tmod_eq_emod_of_nonneg (by omega), Int.tdiv_eq_ediv_of_nonneg (by omega)]
  exact ⟨by omega, by omega⟩
theorem tm_neg (n : Nat) : Int.tmod (-(n : Int)) 10 = -((n % 10 : Nat) : Int) ∧ Int.tdiv (-(n : Int)) 10 = -((n / 10 : Nat) : Int) := by
  rw [Int.neg_tmod, Int.neg_tdiv, (tm_pos n).1, (tm_pos n).2]
  exact ⟨rfl, rfl⟩
theorem fig_is (n : Nat) (h : n < 10) : spec_l01Figure.f (n : Int) = some (((48 + n : Nat) : Int)) := by
  unfold spec_l01Figure.f
  rw [if_pos (by omega), w64 (by omega) (by omega)]
  congr 1
  omega
theorem spec_Decimal.ev0 (b : Bool) (d : Nat) : ∀ (x : Int) (s : List UInt8), -9223372036854775808 ≤ x → x ≤ 9223372036854775807 → x.natAbs < 10 ^ d → s.length + d ≤ 100 →
    Ev (fun k => spec_Decimal.l0 k x b (mk s)) (mk ((if b = true then [45] else []) ++ (dd x.natAbs ++ s))) := by
  induction d with
  | zero =>
    intro x s h0 h1 hx hs
    have hx0 : x = 0 := by
      rw [Nat.pow_zero] at hx
      omega
    subst hx0
    refine ev_now fun k => ?_
    show spec_Decimal.l0 (k + 1) _ _ _ = _
    rw [spec_Decimal.l0, if_pos rfl]
    cases b with
    | true =>
      rw [if_pos rfl, if_pos (by rw [mk_size]; omega), show (⟨#[45]⟩ : ByteArray) = mk [45] from rfl, mk_append]
      rfl
    | false =>
      rw [if_neg (by simp)]
      rfl
  | succ d ih =>
    intro x s h0 h1 hx hs
    by_cases hx0 : x = 0
    · subst hx0
      refine ev_now fun k => ?_
      show spec_Decimal.l0 (k + 1) _ _ _ = _
      rw [spec_Decimal.l0, if_pos rfl]
      cases b with
      | true =>
        rw [if_pos rfl, if_pos (by rw [mk_size]; omega), show (⟨#[45]⟩ : ByteArray) = mk [45] from rfl, mk_append]
        rfl
      | false =>
        rw [if_neg (by simp)]
        rfl
    · have hpow : 10 ^ (d + 1) = 10 ^ d * 10 := Nat.pow_succ 10 d
      have hlt : x.natAbs / 10 < 10 ^ d := by
        rw [Nat.div_lt_iff_lt_mul (by omega), ← hpow]
        exact hx
      clear hpow hx
      obtain ⟨n, hn⟩ : ∃ n, n = x.natAbs := ⟨_, rfl⟩
      have hds := dig_str (n % 10) (by omega)
      have hst := dd_step n (by omega)
      have hfi := fig_is (n % 10) (by omega)
      have hlen : ((mk [UInt8.ofNat (48 + n % 10)]).size + (mk s).size) ≤ 9223372036854775807 := by
        rw [mk_size, mk_size]
        simp only [List.length_cons, List.length_nil]
        omega
      rw [← hn]
      rcases (show x < 0 ∨ 0 ≤ x by omega) with hneg | hpos
      · have ex : x = -(n : Int) := by omega
        have hih := ih (-((n / 10 : Nat) : Int)) ([UInt8.ofNat (48 + n % 10)] ++ s) (by omega) (by omega) (by rw [← hn] at hlt; omega) (by simp only [List.length_append, List.length_cons, List.length_nil]; omega)
        rw [show (-((n / 10 : Nat) : Int)).natAbs = n / 10 by omega, ← List.append_assoc (dd (n / 10)), ← hst] at hih
        refine Ev.step (fun k => ?_) hih
        show spec_Decimal.l0 (k + 1) _ _ _ = spec_Decimal.l0 k _ _ _
        rw [spec_Decimal.l0, if_neg hx0, ex, (tm_neg n).1, (tm_neg n).2]
        by_cases hz : n % 10 = 0
        · rw [hz] at hfi hds hlen ⊢
          rw [if_neg (by omega), show (-((0 : Nat) : Int)) = ((0 : Nat) : Int) from rfl, hfi, Option.bind_some, Option.bind_some, hds, if_pos hlen, w64 (by omega) (by omega), mk_append]
        · rw [if_pos (by omega), w64 (x := - -((n % 10 : Nat) : Int)) (by omega) (by omega), Int.neg_neg, hfi, Option.bind_some, Option.bind_some, hds, if_pos hlen, w64 (by omega) (by omega), mk_append]
      · have ex : x = (n : Int) := by omega
        have hih := ih ((n / 10 : Nat) : Int) ([UInt8.ofNat (48 + n % 10)] ++ s) (by omega) (by omega) (by rw [← hn] at hlt; omega) (by simp only [List.length_append, List.length_cons, List.length_nil]; omega)
        rw [show (((n / 10 : Nat) : Int)).natAbs = n / 10 by omega, ← List.append_assoc (dd (n / 10)), ← hst] at hih
        refine Ev.step (fun k => ?_) hih
        show spec_Decimal.l0 (k + 1) _ _ _ = spec_Decimal.l0 k _ _ _
        rw [spec_Decimal.l0, if_neg hx0, ex, (tm_pos n).1, (tm_pos n).2]
        rw [if_neg (by omega), hfi, Option.bind_some, Option.bind_some, hds, if_pos hlen, w64 (by omega) (by omega), mk_append]
theorem spec_Decimal.ev (x : Int) (h0 : -9223372036854775808 ≤ x) (h1 : x ≤ 9223372036854775807) : Ev (fun k => spec_Decimal.f k x) (mk (Lib.itoa x)) := by
  by_cases hx : x = 0
  · subst hx
    refine ⟨0, fun k hk => ?_⟩
    show spec_Decimal.f k 0 = _
    unfold spec_Decimal.f
    rw [if_pos rfl]
    have : Lib.itoa 0 = [48] := by
      unfold Lib.itoa
      rw [if_neg (by omega), Lib.decDigits, dif_pos (by decide)]
      rfl
    rw [this]
    rfl
  · have h := spec_Decimal.ev0 (decide (x < 0)) 19 x [] h0 h1 (by omega) (by simp)
    obtain ⟨K, h⟩ := h
    dsimp only at h
    refine ⟨K, fun k hk => ?_⟩
    show spec_Decimal.f k x = _
    unfold spec_Decimal.f
    rw [if_neg hx]
    refine (h k hk).trans ?_
    congr 2
    unfold Lib.itoa dd
    rw [List.append_nil, if_neg (show ¬ x.natAbs = 0 by omega)]
    by_cases hn : x < 0
    · rw [if_pos (decide_eq_true hn), if_pos hn]
      rfl
    · rw [if_neg (by simpa using hn), if_neg hn, show x.natAbs = x.toNat by omega]
      rfl
theorem impl_Decimal.is (x : Int) (h0 : -9223372036854775808 ≤ x) (h1 : x ≤ 9223372036854775807) : impl_Decimal.f x = some (mk (Lib.itoa x)) := by
  unfold impl_Decimal.f strconv_Itoa.f
  rw [if_pos ⟨h0, h1⟩, Option.bind_some]
  rfl
theorem spec_l01In.is (a lo hi : Int) : spec_l01In.f a lo hi = some (decide (lo ≤ a ∧ a ≤ hi)) := by
  unfold spec_l01In.f
  by_cases h : a ≥ lo
  · rw [if_pos h]
    congr 1
    simp only [decide_eq_decide]
    exact ⟨fun h' => ⟨h, h'⟩, fun h' => h'.2⟩
  · rw [if_neg h, decide_eq_false (fun h' => h h'.1)]
theorem impl_within.is (a lo hi : Int) : impl_within.f a lo hi = some (decide (lo ≤ a ∧ a ≤ hi)) := by
  unfold impl_within.f
  by_cases h : a ≥ lo
  · rw [if_pos h]
    congr 1
    simp only [decide_eq_decide]
    exact ⟨fun h' => ⟨h, h'⟩, fun h' => h'.2⟩
  · rw [if_neg h, decide_eq_false (fun h' => h h'.1)]
theorem FnExactSegName : ∀ (a0 : Int), (Lit.int .i64 a0).wf = true → ∃ k, laws_FnExactSegName.f k a0 = some true := by
  intro x hw
  obtain ⟨h0, h1⟩ := lit_i64 hw
  obtain ⟨K, h⟩ := spec_Decimal.ev x h0 h1
  dsimp only at h
  refine ⟨K, ?_⟩
  unfold laws_FnExactSegName.f spec_SegName.f impl_SegName.f
  rw [spec_l01In.is, impl_within.is, Option.bind_some, Option.bind_some, h K (Nat.le_refl _), impl_Decimal.is x h0 h1]
  by_cases hx : 0 ≤ x ∧ x ≤ 999
  · rw [decide_eq_true hx, if_pos rfl, Option.bind_some, mk_size]
    have hl : (Lib.itoa x).length ≤ 100 := by
      unfold Lib.itoa
      rw [if_neg (by omega), Lib.decDigits_length]
      obtain ⟨n, rfl⟩ := Int.eq_ofNat_of_zero_le hx.1
      have : ∀ u : Nat, u < 1000 → Lib.nDigits u ≤ 3 := fun u hu => by
        rw [Lib.nDigits]
        split
        · omega
        · rw [Lib.nDigits]
          split
          · omega
          · rw [Lib.nDigits]
            split
            · omega
            · omega
      have := this (Int.toNat (n : Int)) (by omega)
      omega
    rw [if_pos (by omega), Option.bind_some, Option.bind_some, if_pos rfl]
  · rw [decide_eq_false hx, if_neg (show ¬ (false = true) by decide), Option.bind_some, Option.bind_some, if_pos rfl]

end Go.Proofs.YtpnncgfmihjlkaaDoor.Pure
