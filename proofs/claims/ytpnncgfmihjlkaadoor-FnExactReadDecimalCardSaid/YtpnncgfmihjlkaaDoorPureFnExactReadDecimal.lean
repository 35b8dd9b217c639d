/- The law FnExactReadDecimal, over numbers and lists: for every input that the statement speaks of the printed function answers true; conditions: those of the printed statement. -/
import Derived.Test.YtpnncgfmihjlkaaDoorQFnExactReadDecimalx1
import Derived.Laws.BitsAllLaws
import Derived.Sort.Walk0
import Derived.Lib.Bytealg
namespace Go.Proofs.YtpnncgfmihjlkaaDoor.Pure
open Go.RowKit Go.Proofs.YtpnncgfmihjlkaaDoor.QFnExactReadDecimal Go.Proofs.YtpnncgfmihjlkaaDoorW.PrintWords Go.Proofs.YtpnncgfmihjlkaaDoorW.PrintLast Go.Proofs.YtpnncgfmihjlkaaDoorW.PrintMore
set_option linter.unusedVariables false
set_option linter.unusedSimpArgs false

/-! ### strings as lists of bytes -/
def mk (l : List UInt8) : ByteArray := ⟨l.toArray⟩
def nm (l : List UInt8) : List Int := l.map fun b => (b.toNat : Int)
theorem mk_of (s : ByteArray) : ∃ l, s = mk l := ⟨s.data.toList, rfl⟩
theorem mk_data (l : List UInt8) : (mk l).data.toList = l := rfl
theorem mk_toList (l : List UInt8) : (mk l).toList = l := by rw [ByteArray.toList_eq]; rfl
theorem mk_size (l : List UInt8) : (mk l).size = l.length := List.size_toArray
theorem mk_inj {a b : List UInt8} (h : mk a = mk b) : a = b := by rw [← mk_data a, h]; rfl
theorem mk_append (a b : List UInt8) : mk a ++ mk b = mk (a ++ b) := by
  apply ByteArray.ext
  rw [ByteArray.data_append]
  simp [mk]
theorem mk_extract (l : List UInt8) (i j : Nat) : (mk l).extract i j = mk ((l.drop i).take (j - i)) := by
  apply ByteArray.ext
  rw [ByteArray.data_extract]
  apply Array.ext'
  simp [mk, List.take_drop]
theorem mk_nil : (⟨#[]⟩ : ByteArray) = mk [] := rfl
theorem nm_append (a b : List UInt8) : nm (a ++ b) = nm a ++ nm b := by simp [nm]
theorem nm_length (a : List UInt8) : (nm a).length = a.length := by simp [nm]
theorem nm_nil : ([] : List Int) = nm [] := rfl
theorem strOf_nm (l : List UInt8) : strOfNums (nm l) = mk l := by
  unfold strOfNums nm mk
  rw [List.map_map]
  congr 1
  have : ∀ l : List UInt8, List.map ((fun n : Int => UInt8.ofNat n.toNat) ∘ fun b : UInt8 => (b.toNat : Int)) l = l := by
    intro l
    induction l with
    | nil => rfl
    | cons a l ih => rw [List.map_cons, ih]; simp
  rw [this]
theorem bt_mk (l : List UInt8) (n : Nat) (h : n < l.length) : bt (mk l) (n : Int) = ((l[n]).toNat : Int) := by
  unfold bt
  rw [dif_pos (show (n : Int).toNat < (mk l).size by rw [mk_size]; omega)]
  rfl
/-- A fact that omega doesn't look into. -/
structure Hd (p : Prop) : Prop where
  mk :: (out : p)
theorem w64 {x : Int} (h0 : -9223372036854775808 ≤ x) (h1 : x ≤ 9223372036854775807) : wrap64 x = x := by
  unfold wrap64
  omega
theorem nm_u8 (n : Nat) (h : n < 256) : nm [UInt8.ofNat n] = [(n : Int)] := by
  simp [nm]
  omega
theorem tmod_nat (x d : Nat) : Int.tmod (x : Int) (d : Int) = ((x % d : Nat) : Int) := by
  rw [Int.tmod_eq_emod_of_nonneg (by omega)]
  exact (Int.natCast_emod x d).symm
theorem tdiv_nat (x d : Nat) : Int.tdiv (x : Int) (d : Int) = ((x / d : Nat) : Int) := by
  rw [Int.tdiv_eq_ediv_of_nonneg (by omega)]
  exact (Int.natCast_ediv x d).symm
theorem drop_cons (l : List UInt8) (i : Nat) (h : i < l.length) : l.drop i = l[i] :: l.drop (i + 1) := List.drop_eq_getElem_cons h
/-- C holds at i, i + 1, .., d of them. -/
def allF (C : Nat → Bool) : Nat → Nat → Bool
  | 0, _ => true
  | d + 1, i => C i && allF C d (i + 1)
theorem allF_congr {C D : Nat → Bool} (d : Nat) : ∀ i, (∀ j, i ≤ j → j < i + d → C j = D j) → allF C d i = allF D d i := by
  induction d with
  | zero => intro i h; rfl
  | succ d ih =>
    intro i h
    simp only [allF]
    rw [h i (by omega) (by omega), ih (i + 1) (fun j h1 h2 => h j (by omega) (by omega))]
theorem allF_true {C : Nat → Bool} (d : Nat) : ∀ i, allF C d i = true ↔ ∀ j, i ≤ j → j < i + d → C j = true := by
  induction d with
  | zero => intro i; simp only [allF, true_iff]; intro j h1 h2; omega
  | succ d ih =>
    intro i
    simp only [allF, Bool.and_eq_true, ih]
    constructor
    · rintro ⟨h1, h2⟩ j h3 h4
      by_cases e : j = i
      · rw [e]; exact h1
      · exact h2 j (by omega) (by omega)
    · intro h
      exact ⟨h i (by omega) (by omega), fun j h1 h2 => h j (by omega) (by omega)⟩
theorem ev_now {α : Type} {g : Nat → Option α} {r : α} (h : ∀ k, g (k + 1) = some r) : Ev g r :=
  ⟨1, fun k hk => by obtain ⟨m, rfl⟩ : ∃ m, k = m + 1 := ⟨k - 1, by omega⟩; exact h m⟩
/-! ### the decimal numeral -/
/-- The digits; none for 0. -/
def dd (u : Nat) : List UInt8 := if u = 0 then [] else Lib.decDigits u
theorem dd_step (u : Nat) (h : u ≠ 0) : dd u = dd (u / 10) ++ [UInt8.ofNat (48 + u % 10)] := by
  unfold dd
  rw [if_neg h, Lib.decDigits]
  by_cases h1 : u < 10
  · rw [dif_pos h1, if_pos (by omega), List.nil_append, Nat.mod_eq_of_lt h1]
  · rw [dif_neg h1, if_neg (by omega)]
theorem dig_str (n : Nat) (h : n < 10) : strOfNums [((48 + n : Nat) : Int)] = mk [UInt8.ofNat (48 + n)] := by
  rw [← nm_u8 _ (by omega), strOf_nm]
theorem tm_pos (n : Nat) : Int.tmod (n : Int) 10 = ((n % 10 : Nat) : Int) ∧ Int.tdiv (n : Int) 10 = ((n / 10 : Nat) : Int) := by
  rw [Int.tmod_eq_emod_of_nonneg (by omega), Int.tdiv_eq_ediv_of_nonneg (by omega)]
  exact ⟨by omega, by omega⟩
theorem tm_neg (n : Nat) : Int.tmod (-(n : Int)) 10 = -((n % 10 : Nat) : Int) ∧ Int.tdiv (-(n : Int)) 10 = -((n / 10 : Nat) : Int) := by
  rw [Int.neg_tmod, Int.neg_tdiv, (tm_pos n).1, (tm_pos n).2]
  exact ⟨rfl, rfl⟩
/-! ### a numeral read -/
def digL (l : List UInt8) : Bool := l.all fun b => decide (48 ≤ b.toNat ∧ b.toNat ≤ 57)
def stp (n : Nat) (b : UInt8) : Nat := 10 * n + (b.toNat - 48)
def val (acc : Nat) (l : List UInt8) : Nat := l.foldl stp acc
theorem stp_eq (n : Nat) (b : UInt8) : stp n b = 10 * n + (b.toNat - 48) := by unfold stp; rfl
theorem val_nil (acc : Nat) : val acc [] = acc := List.foldl_nil
theorem val_cons (acc : Nat) (b : UInt8) (l : List UInt8) : val acc (b :: l) = val (stp acc b) l := List.foldl_cons ..
theorem val_snoc (b : UInt8) (l : List UInt8) (acc : Nat) : val acc (l ++ [b]) = 10 * val acc l + (b.toNat - 48) := by
  rw [← stp_eq]
  unfold val
  rw [List.foldl_append, List.foldl_cons, List.foldl_nil]
theorem val_ge : ∀ (l : List UInt8) (acc : Nat), acc ≤ val acc l
  | [], acc => by rw [val_nil]; omega
  | b :: l, acc => by
    rw [val_cons]
    have h1 := val_ge l (stp acc b)
    have h2 := stp_eq acc b
    omega
theorem digL_cons (b : UInt8) (l : List UInt8) : digL (b :: l) = (decide (48 ≤ b.toNat ∧ b.toNat ≤ 57) && digL l) := rfl
theorem parse_val : ∀ (l : List UInt8) (acc : Nat), digL l = true → val acc l ≤ 1000000000 → Lib.parseUint10 acc l = .ok (val acc l)
  | [], acc, _, _ => by rw [Lib.parseUint10, val_nil]
  | b :: l, acc, hd, hv => by
    rw [digL_cons, Bool.and_eq_true, decide_eq_true_eq] at hd
    rw [val_cons] at hv
    have h1 := val_ge l (stp acc b)
    have h2 := stp_eq acc b
    have ih := parse_val l (stp acc b) hd.2 hv
    rw [Lib.parseUint10, if_pos hd.1, if_neg (by omega), if_neg (by omega), Nat.mul_comm acc 10, ← h2, ih, val_cons]
theorem dec_val (d : Nat) : ∀ u : Nat, u < 10 ^ (d + 1) → val 0 (Lib.decDigits u) = u ∧ digL (Lib.decDigits u) = true ∧ (Lib.decDigits u).length ≤ d + 1 := by
  have small : ∀ u : Nat, u < 10 → val 0 (Lib.decDigits u) = u ∧ digL (Lib.decDigits u) = true ∧ (Lib.decDigits u).length = 1 := fun u hu => by
    rw [Lib.decDigits, dif_pos hu]
    have e : (UInt8.ofNat (48 + u)).toNat = 48 + u := by simp; omega
    refine ⟨?_, ?_, rfl⟩
    · rw [val_cons, val_nil, stp_eq, e]
      omega
    · rw [digL_cons, e, decide_eq_true (by omega)]
      rfl
  induction d with
  | zero =>
    intro u hu
    have := small u (by omega)
    exact ⟨this.1, this.2.1, by omega⟩
  | succ d ih =>
    intro u hu
    by_cases h : u < 10
    · have := small u h
      exact ⟨this.1, this.2.1, by omega⟩
    · have hpow : 10 ^ (d + 1 + 1) = 10 ^ (d + 1) * 10 := Nat.pow_succ 10 (d + 1)
      have hlt : u / 10 < 10 ^ (d + 1) := by
        rw [Nat.div_lt_iff_lt_mul (by omega), ← hpow]
        exact hu
      obtain ⟨h1, h2, h3⟩ := ih (u / 10) hlt
      clear ih hpow hlt hu
      rw [Lib.decDigits, dif_neg h]
      have e : (UInt8.ofNat (48 + u % 10)).toNat = 48 + u % 10 := by simp; omega
      refine ⟨?_, ?_, ?_⟩
      · rw [val_snoc, h1, e]
        omega
      · show (Lib.decDigits (u / 10) ++ [UInt8.ofNat (48 + u % 10)]).all _ = true
        rw [List.all_append]
        have h2' : (Lib.decDigits (u / 10)).all (fun b => decide (48 ≤ b.toNat ∧ b.toNat ≤ 57)) = true := h2
        rw [h2', List.all_cons, e, decide_eq_true (by omega)]
        rfl
      · rw [List.length_append]
        simp only [List.length_cons, List.length_nil]
        omega
def rdC (l : List UInt8) : Prop := l.length ≤ 10 ∧ digL l = true ∧ val 0 l ≤ 1000000000 ∧ Lib.decDigits (val 0 l) = l
instance (l : List UInt8) : Decidable (rdC l) := by unfold rdC; infer_instance
/-- What is read. -/
def rdO (l : List UInt8) : Int × Bool := if rdC l then ((val 0 l : Int), true) else (0, false)
theorem itoa_nat (u : Nat) : Lib.itoa (u : Int) = Lib.decDigits u := by
  unfold Lib.itoa
  rw [if_neg (by omega), Int.toNat_natCast]
theorem fig_is (n : Nat) (h : n < 10) : spec_l01Figure.f (n : Int) = some (((48 + n : Nat) : Int)) := by
  unfold spec_l01Figure.f
  rw [if_pos (by omega), w64 (by omega) (by omega)]
  congr 1
  omega
theorem spec_Decimal.ev0 (b : Bool) (d : Nat) : ∀ (x : Int) (s : List UInt8), -9223372036854775808 ≤ x → x ≤ 9223372036854775807 → x.natAbs < 10 ^ d → s.length + d ≤ 100 →
    Ev (fun k => spec_Decimal.l0 k x b (mk s)) (mk ((if b = true then [45] else []) ++ (dd x.natAbs ++ s))) := by
  induction d with
  | zero =>
    intro x s h0 h1 hx hs
    have hx0 : x = 0 := by
      rw [Nat.pow_zero] at hx
      omega
    subst hx0
    refine ev_now fun k => ?_
    show spec_Decimal.l0 (k + 1) _ _ _ = _
    rw [spec_Decimal.l0, if_pos rfl]
    cases b with
    | true =>
      rw [if_pos rfl, if_pos (by rw [mk_size]; omega), show (⟨#[45]⟩ : ByteArray) = mk [45] from rfl, mk_append]
      rfl
    | false =>
      rw [if_neg (by simp)]
      rfl
  | succ d ih =>
    intro x s h0 h1 hx hs
    by_cases hx0 : x = 0
    · subst hx0
      refine ev_now fun k => ?_
      show spec_Decimal.l0 (k + 1) _ _ _ = _
      rw [spec_Decimal.l0, if_pos rfl]
      cases b with
      | true =>
        rw [if_pos rfl, if_pos (by rw [mk_size]; omega), show (⟨#[45]⟩ : ByteArray) = mk [45] from rfl, mk_append]
        rfl
      | false =>
        rw [if_neg (by simp)]
        rfl
    · have hpow : 10 ^ (d + 1) = 10 ^ d * 10 := Nat.pow_succ 10 d
      have hlt : x.natAbs / 10 < 10 ^ d := by
        rw [Nat.div_lt_iff_lt_mul (by omega), ← hpow]
        exact hx
      clear hpow hx
      obtain ⟨n, hn⟩ : ∃ n, n = x.natAbs := ⟨_, rfl⟩
      have hds := dig_str (n % 10) (by omega)
      have hst := dd_step n (by omega)
      have hfi := fig_is (n % 10) (by omega)
      have hlen : ((mk [UInt8.ofNat (48 + n % 10)]).size + (mk s).size) ≤ 9223372036854775807 := by
        rw [mk_size, mk_size]
        simp only [List.length_cons, List.length_nil]
        omega
      rw [← hn]
      rcases (show x < 0 ∨ 0 ≤ x by omega) with hneg | hpos
      · have ex : x = -(n : Int) := by omega
        have hih := ih (-((n / 10 : Nat) : Int)) ([UInt8.ofNat (48 + n % 10)] ++ s) (by omega) (by omega) (by rw [← hn] at hlt; omega) (by simp only [List.length_append, List.length_cons, List.length_nil]; omega)
        rw [show (-((n / 10 : Nat) : Int)).natAbs = n / 10 by omega, ← List.append_assoc (dd (n / 10)), ← hst] at hih
        refine Ev.step (fun k => ?_) hih
        show spec_Decimal.l0 (k + 1) _ _ _ = spec_Decimal.l0 k _ _ _
        rw [spec_Decimal.l0, if_neg hx0, ex, (tm_neg n).1, (tm_neg n).2]
        by_cases hz : n % 10 = 0
        · rw [hz] at hfi hds hlen ⊢
          rw [if_neg (by omega), show (-((0 : Nat) : Int)) = ((0 : Nat) : Int) from rfl, hfi, Option.bind_some, Option.bind_some, hds, if_pos hlen, w64 (by omega) (by omega), mk_append]
        · rw [if_pos (by omega), w64 (x := - -((n % 10 : Nat) : Int)) (by omega) (by omega), Int.neg_neg, hfi, Option.bind_some, Option.bind_some, hds, if_pos hlen, w64 (by omega) (by omega), mk_append]
      · have ex : x = (n : Int) := by omega
        have hih := ih ((n / 10 : Nat) : Int) ([UInt8.ofNat (48 + n % 10)] ++ s) (by omega) (by omega) (by rw [← hn] at hlt; omega) (by simp only [List.length_append, List.length_cons, List.length_nil]; omega)
        rw [show (((n / 10 : Nat) : Int)).natAbs = n / 10 by omega, ← List.append_assoc (dd (n / 10)), ← hst] at hih
        refine Ev.step (fun k => ?_) hih
        show spec_Decimal.l0 (k + 1) _ _ _ = spec_Decimal.l0 k _ _ _
        rw [spec_Decimal.l0, if_neg hx0, ex, (tm_pos n).1, (tm_pos n).2]
        rw [if_neg (by omega), hfi, Option.bind_some, Option.bind_some, hds, if_pos hlen, w64 (by omega) (by omega), mk_append]
theorem spec_Decimal.ev (x : Int) (h0 : -9223372036854775808 ≤ x) (h1 : x ≤ 9223372036854775807) : Ev (fun k => spec_Decimal.f k x) (mk (Lib.itoa x)) := by
  by_cases hx : x = 0
  · subst hx
    refine ⟨0, fun k hk => ?_⟩
    show spec_Decimal.f k 0 = _
    unfold spec_Decimal.f
    rw [if_pos rfl]
    have : Lib.itoa 0 = [48] := by
      unfold Lib.itoa
      rw [if_neg (by omega), Lib.decDigits, dif_pos (by decide)]
      rfl
    rw [this]
    rfl
  · have h := spec_Decimal.ev0 (decide (x < 0)) 19 x [] h0 h1 (by omega) (by simp)
    obtain ⟨K, h⟩ := h
    dsimp only at h
    refine ⟨K, fun k hk => ?_⟩
    show spec_Decimal.f k x = _
    unfold spec_Decimal.f
    rw [if_neg hx]
    refine (h k hk).trans ?_
    congr 2
    unfold Lib.itoa dd
    rw [List.append_nil, if_neg (show ¬ x.natAbs = 0 by omega)]
    by_cases hn : x < 0
    · rw [if_pos (decide_eq_true hn), if_pos hn]
      rfl
    · rw [if_neg (by simpa using hn), if_neg hn, show x.natAbs = x.toNat by omega]
      rfl
theorem spec_ReadDecimal.ev0 (l : List UInt8) (hs : l.length ≤ 10) (d : Nat) : ∀ i : Nat, i + d = l.length → digL (l.take i) = true → val 0 (l.take i) ≤ 1000000000000 → (i ≤ 10 → val 0 (l.take i) < 10 ^ i) →
    Ev (fun k => spec_ReadDecimal.l0 k (mk l) (val 0 (l.take i) : Int) (i : Int)) (rdO l) := by
  induction d with
  | zero =>
    intro i hi hd hv _
    have et : l.take i = l := List.take_of_length_le (by omega)
    rw [et] at hd hv ⊢
    unfold rdO
    by_cases hc : val 0 l ≤ 1000000000
    · obtain ⟨K, h⟩ := spec_Decimal.ev (val 0 l : Int) (by omega) (by omega)
      dsimp only at h
      refine ⟨K + 1, fun k hk => ?_⟩
      obtain ⟨k, rfl⟩ : ∃ m, k = m + 1 := ⟨k - 1, by omega⟩
      show spec_ReadDecimal.l0 (k + 1) _ _ _ = _
      rw [spec_ReadDecimal.l0, if_neg (by rw [mk_size]; omega), if_neg (by omega), h k (by omega), Option.bind_some, mk_toList, mk_toList, itoa_nat]
      by_cases he : Lib.decDigits (val 0 l) = l
      · rw [if_pos he, if_pos (show rdC l from ⟨hs, hd, hc, he⟩)]
      · rw [if_neg he, if_neg (fun x : rdC l => he x.2.2.2)]
    · rw [if_neg (fun x : rdC l => hc x.2.2.1)]
      refine ev_now fun k => ?_
      show spec_ReadDecimal.l0 (k + 1) _ _ _ = _
      rw [spec_ReadDecimal.l0, if_neg (by rw [mk_size]; omega), if_pos (by omega)]
  | succ d ih =>
    intro i hi hd hv hp
    have hlt : i < l.length := by omega
    have hbt : bt (mk l) (i : Int) = (l[i].toNat : Int) := bt_mk l i hlt
    have h256 : l[i].toNat < 256 := l[i].toNat_lt
    have ew : Hd (wrap64 ((i : Int) + 1) = ((i + 1 : Nat) : Int)) := Hd.mk <| by rw [w64 (by omega) (by omega)]; rfl
    by_cases hb : 48 ≤ l[i].toNat ∧ l[i].toNat ≤ 57
    · have et : l.take (i + 1) = l.take i ++ [l[i]] := List.take_succ_eq_append_getElem hlt
      have ev : val 0 (l.take (i + 1)) = 10 * val 0 (l.take i) + (l[i].toNat - 48) := by rw [et, val_snoc]
      have hpow : val 0 (l.take (i + 1)) < 10 ^ (i + 1) := by
        have h1 := hp (by omega)
        rw [ev, Nat.pow_succ]
        omega
      have hbig : 10 ^ (i + 1) ≤ 10 ^ 10 := Nat.pow_le_pow_right (by omega) (by omega)
      have hv' : val 0 (l.take (i + 1)) ≤ 1000000000000 := by
        have : (10 : Nat) ^ 10 = 10000000000 := by decide
        omega
      have hih := ih (i + 1) (by omega) (by
        rw [et]
        show (l.take i ++ [l[i]]).all _ = true
        rw [List.all_append]
        have hd' : (l.take i).all (fun b => decide (48 ≤ b.toNat ∧ b.toNat ≤ 57)) = true := hd
        rw [hd', List.all_cons, decide_eq_true hb]
        rfl) hv' (fun _ => hpow)
      clear hpow hbig hp ih
      refine Ev.step (fun k => ?_) hih
      show spec_ReadDecimal.l0 (k + 1) _ _ _ = spec_ReadDecimal.l0 k _ _ _
      have en : Hd (wrap64 ((wrap64 ((wrap64 (10 * (val 0 (l.take i) : Int))) + (wrap64 (l[i].toNat : Int)))) - 48) = (val 0 (l.take (i + 1)) : Int)) := Hd.mk <| by
        rw [w64 (x := 10 * (val 0 (l.take i) : Int)) (by omega) (by omega), w64 (x := (l[i].toNat : Int)) (by omega) (by omega), w64 (x := 10 * (val 0 (l.take i) : Int) + (l[i].toNat : Int)) (by omega) (by omega), w64 (by omega) (by omega), ev]
        omega
      rw [spec_ReadDecimal.l0, if_pos (by rw [mk_size]; omega), if_pos (by omega), hbt, if_neg (by omega), if_neg (by omega), en.out, ew.out]
    · have hc : ¬ rdC l := fun x => by
        have h2 := x.2.1
        unfold digL at h2
        rw [List.all_eq_true] at h2
        have := h2 l[i] (List.getElem_mem hlt)
        rw [decide_eq_true_eq] at this
        exact hb this
      unfold rdO
      rw [if_neg hc]
      refine ev_now fun k => ?_
      show spec_ReadDecimal.l0 (k + 1) _ _ _ = _
      rw [spec_ReadDecimal.l0, if_pos (by rw [mk_size]; omega), if_pos (by omega), hbt]
      by_cases hlo : l[i].toNat < 48
      · rw [if_pos (by omega)]
      · rw [if_neg (by omega), if_pos (by omega)]
theorem spec_ReadDecimal.ev (l : List UInt8) : Ev (fun k => spec_ReadDecimal.f k (mk l)) (rdO l) := by
  by_cases hs : l.length ≤ 10
  · obtain ⟨K, h⟩ := spec_ReadDecimal.ev0 l hs l.length 0 (by omega) rfl (by rw [List.take_zero, val_nil]; omega) (fun _ => by rw [List.take_zero, val_nil]; omega)
    dsimp only at h
    rw [List.take_zero, val_nil] at h
    refine ⟨K, fun k hk => ?_⟩
    show spec_ReadDecimal.f k _ = _
    unfold spec_ReadDecimal.f
    rw [if_neg (by rw [mk_size]; omega)]
    exact h k hk
  · refine ⟨0, fun k hk => ?_⟩
    show spec_ReadDecimal.f k _ = _
    unfold spec_ReadDecimal.f rdO
    rw [if_pos (by rw [mk_size]; omega), if_neg (fun x : rdC l => hs x.1)]
theorem impl_ReadDecimal.is (l : List UInt8) (hs : l.length ≤ 1048576) : impl_ReadDecimal.f (mk l) = some (rdO l) := by
  unfold impl_ReadDecimal.f rdO
  rw [if_pos (by rw [mk_size]; exact hs), mk_data]
  congr 1
  by_cases hc : rdC l
  · obtain ⟨h1, h2, h3, h4⟩ := hc
    have hl : Lib.atoiAll l = .ok (val 0 l : Int) := by
      cases l with
      | nil =>
        have e0 : Lib.decDigits 0 = [48] := by
          rw [Lib.decDigits, dif_pos (by omega)]
          rfl
        rw [val_nil] at h4
        rw [e0] at h4
        cases h4
      | cons c r =>
        have hp := parse_val (c :: r) 0 h2 h3
        have h2' := h2
        rw [digL_cons, Bool.and_eq_true, decide_eq_true_eq] at h2'
        have hn : ¬ (c.toNat = 43 ∨ c.toNat = 45) := by omega
        have hm : Lib.parseMag (c :: r) = .ok (val 0 (c :: r)) := by
          unfold Lib.parseMag
          rw [if_neg (by simp)]
          exact hp
        unfold Lib.atoiAll
        simp only [if_neg hn, hm]
        rw [if_neg (by omega), if_neg (by omega), if_neg (by omega)]
    rw [hl, if_pos (show rdC l from ⟨h1, h2, h3, h4⟩)]
    show (if Lib.itoa (val 0 l : Int) = l ∧ 0 ≤ (val 0 l : Int) ∧ (val 0 l : Int) ≤ 1000000000 then ((val 0 l : Int), true) else (0, false)) = _
    rw [if_pos ⟨by rw [itoa_nat]; exact h4, by omega, by omega⟩]
  · rw [if_neg hc]
    cases ha : Lib.atoiAll l with
    | «syntax» => rfl
    | range => rfl
    | ok v =>
      show (if Lib.itoa v = l ∧ 0 ≤ v ∧ v ≤ 1000000000 then (v, true) else ((0 : Int), false)) = _
      by_cases h : Lib.itoa v = l ∧ 0 ≤ v ∧ v ≤ 1000000000
      · obtain ⟨h1, h2, h3⟩ := h
        obtain ⟨u, rfl⟩ := Int.eq_ofNat_of_zero_le h2
        rw [itoa_nat] at h1
        obtain ⟨e1, e2, e3⟩ := dec_val 9 u (by omega)
        exact absurd (show rdC l from by
          rw [← h1]
          exact ⟨by omega, e2, by rw [e1]; omega, by rw [e1]⟩) hc
      · rw [if_neg h]
theorem FnExactReadDecimal : ∀ (a0 : ByteArray), (a0.size ≤ maxLen) → ∃ k, laws_FnExactReadDecimal.f k a0 = some true := by
  intro s hs
  obtain ⟨l, rfl⟩ := mk_of s
  by_cases hc : ((mk l).size : Int) > 1048576
  · refine ⟨0, ?_⟩
    unfold laws_FnExactReadDecimal.f
    rw [if_pos hc]
  · obtain ⟨K, h⟩ := spec_ReadDecimal.ev l
    dsimp only at h
    refine ⟨K, ?_⟩
    unfold laws_FnExactReadDecimal.f
    rw [if_neg hc, h K (Nat.le_refl _), Option.bind_some, impl_ReadDecimal.is l (by rw [mk_size] at hc; omega), Option.bind_some, if_pos rfl, if_neg (by simp)]

end Go.Proofs.YtpnncgfmihjlkaaDoor.Pure
