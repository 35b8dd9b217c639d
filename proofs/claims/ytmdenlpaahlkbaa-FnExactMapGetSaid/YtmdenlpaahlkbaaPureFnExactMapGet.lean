/- The law FnExactMapGet, over numbers and lists: for every input that the statement speaks of the printed function answers true; conditions: those of the printed statement. -/
import Derived.Test.YtmdenlpaahlkbaaQFnExactMapGetx1
import Derived.Test.YtmdenlpaahlkbaaQFnExactMapGetx2
import Derived.Test.YtmdenlpaahlkbaaQFnExactMapGetx3
import Derived.Laws.BitsAllLaws
import Derived.Sort.Walk0
import Derived.Lib.Bytealg
namespace Go.Proofs.Ytmdenlpaahlkbaa.Pure
open Go.RowKit Go.Proofs.Ytmdenlpaahlkbaa.QFnExactMapGet Go.Proofs.YtmdenlpaahlkbaaW.PrintWords Go.Proofs.YtmdenlpaahlkbaaW.PrintLast Go.Proofs.YtmdenlpaahlkbaaW.PrintMore
set_option linter.unusedVariables false
set_option linter.unusedSimpArgs false

/-! ### strings as lists of bytes -/
def mk (l : List UInt8) : ByteArray := ⟨l.toArray⟩
def nm (l : List UInt8) : List Int := l.map fun b => (b.toNat : Int)
theorem mk_of (s : ByteArray) : ∃ l, s = mk l := ⟨s.data.toList, rfl⟩
theorem mk_data (l : List UInt8) : (mk l).data.toList = l := rfl
theorem mk_toList (l : List UInt8) : (mk l).toList = l := by rw [ByteArray.toList_eq]; rfl
theorem mk_size (l : List UInt8) : (mk l).size = l.length := List.size_toArray
theorem mk_inj {a b : List UInt8} (h : mk a = mk b) : a = b := by rw [← mk_data a, h]; rfl
theorem mk_append (a b : List UInt8) : mk a ++ mk b = mk (a ++ b) := by
  apply ByteArray.ext
  rw [ByteArray.data_append]
  simp [mk]
theorem mk_extract (l : List UInt8) (i j : Nat) : (mk l).extract i j = mk ((l.drop i).take (j - i)) := by
  apply ByteArray.ext
  rw [ByteArray.data_extract]
  apply Array.ext'
  simp [mk, List.take_drop]
theorem mk_nil : (⟨#[]⟩ : ByteArray) = mk [] := rfl
theorem nm_append (a b : List UInt8) : nm (a ++ b) = nm a ++ nm b := by simp [nm]
theorem nm_length (a : List UInt8) : (nm a).length = a.length := by simp [nm]
theorem nm_nil : ([] : List Int) = nm [] := rfl
theorem strOf_nm (l : List UInt8) : strOfNums (nm l) = mk l := by
  unfold strOfNums nm mk
  rw [List.map_map]
  congr 1
  have : ∀ l : List UInt8, List.map ((fun n : Int => UInt8.ofNat n.toNat) ∘ fun b : UInt8 => (b.toNat : Int)) l = l := by
    intro l
    induction l with
    | nil => rfl
    | cons a l ih => rw [List.map_cons, ih]; simp
  rw [this]
theorem bt_mk (l : List UInt8) (n : Nat) (h : n < l.length) : bt (mk l) (n : Int) = ((l[n]).toNat : Int) := by
  unfold bt
  rw [dif_pos (show (n : Int).toNat < (mk l).size by rw [mk_size]; omega)]
  rfl
/-- A fact that omega doesn't look into. -/
structure Hd (p : Prop) : Prop where
  mk :: (out : p)
theorem w64 {x : Int} (h0 : -9223372036854775808 ≤ x) (h1 : x ≤ 9223372036854775807) : wrap64 x = x := by
  unfold wrap64
  omega
theorem nm_u8 (n : Nat) (h : n < 256) : nm [UInt8.ofNat n] = [(n : Int)] := by
  simp [nm]
  omega
theorem tmod_nat (x d : Nat) : Int.tmod (x : Int) (d : Int) = ((x % d : Nat) : Int) := by
  rw [Int.tmod_eq_emod_of_nonneg (by omega)]
  exact (Int.natCast_emod x d).symm
theorem tdiv_nat (x d : Nat) : Int.tdiv (x : Int) (d : Int) = ((x / d : Nat) : Int) := by
  rw [Int.tdiv_eq_ediv_of_nonneg (by omega)]
  exact (Int.natCast_ediv x d).symm
theorem drop_cons (l : List UInt8) (i : Nat) (h : i < l.length) : l.drop i = l[i] :: l.drop (i + 1) := List.drop_eq_getElem_cons h
/-! ### the order of strings -/
theorem bless (a b : List UInt8) : Op.bytesLess a b = decide (a < b) := Proofs.bytesLess_eq a b
theorem cmpB_lt : ∀ a b : List UInt8, Lib.compareBytes a b < 0 ↔ a < b
  | [], [] => by simp [Lib.compareBytes]
  | [], _ :: _ => by simp [Lib.compareBytes]
  | _ :: _, [] => by simp [Lib.compareBytes]
  | a :: xs, b :: ys => by
    rw [List.cons_lt_cons_iff, ← cmpB_lt xs ys, Lib.compareBytes]
    by_cases h : a < b
    · simp [h]
    · by_cases h2 : b < a
      · have : a ≠ b := by rintro rfl; exact h h2
        simp [h, h2, this]
      · have : a = b := UInt8.le_antisymm (UInt8.not_lt.1 h2) (UInt8.not_lt.1 h)
        simp [this]
theorem cmpB_eq : ∀ a b : List UInt8, Lib.compareBytes a b = 0 ↔ a = b
  | [], [] => by simp [Lib.compareBytes]
  | [], _ :: _ => by simp [Lib.compareBytes]
  | _ :: _, [] => by simp [Lib.compareBytes]
  | a :: xs, b :: ys => by
    rw [List.cons_eq_cons, ← cmpB_eq xs ys, Lib.compareBytes]
    by_cases h : a < b
    · have : a ≠ b := by rintro rfl; exact UInt8.lt_irrefl _ h
      simp [h, this]
    · by_cases h2 : b < a
      · have : a ≠ b := by rintro rfl; exact h h2
        simp [h, h2, this]
      · have : a = b := UInt8.le_antisymm (UInt8.not_lt.1 h2) (UInt8.not_lt.1 h)
        simp [this]
theorem bl_trans {a b c : List UInt8} (h1 : a < b) (h2 : b < c) : a < c := List.lt_trans h1 h2
theorem bl_irrefl (a : List UInt8) : ¬ a < a := List.lt_irrefl a
theorem bl_tri (a b : List UInt8) : a < b ∨ a = b ∨ b < a := by
  by_cases h : a < b
  · exact Or.inl h
  · by_cases h2 : b < a
    · exact Or.inr (Or.inr h2)
    · exact Or.inr (Or.inl (List.le_antisymm (List.not_lt.1 h2) (List.not_lt.1 h)))
def bl (s : ByteArray) : List UInt8 := s.data.toList
theorem mk_bl (s : ByteArray) : mk (bl s) = s := rfl
theorem bl_len (s : ByteArray) : (bl s).length = s.size := rfl
theorem bl_inj {a b : ByteArray} (h : bl a = bl b) : a = b := by rw [← mk_bl a, h, mk_bl]
theorem bl_toList (a : ByteArray) : a.toList = bl a := ByteArray.toList_eq a
/-- C holds at i, i + 1, .., d of them. -/
def allF (C : Nat → Bool) : Nat → Nat → Bool
  | 0, _ => true
  | d + 1, i => C i && allF C d (i + 1)
theorem allF_congr {C D : Nat → Bool} (d : Nat) : ∀ i, (∀ j, i ≤ j → j < i + d → C j = D j) → allF C d i = allF D d i := by
  induction d with
  | zero => intro i h; rfl
  | succ d ih =>
    intro i h
    simp only [allF]
    rw [h i (by omega) (by omega), ih (i + 1) (fun j h1 h2 => h j (by omega) (by omega))]
theorem allF_true {C : Nat → Bool} (d : Nat) : ∀ i, allF C d i = true ↔ ∀ j, i ≤ j → j < i + d → C j = true := by
  induction d with
  | zero => intro i; simp only [allF, true_iff]; intro j h1 h2; omega
  | succ d ih =>
    intro i
    simp only [allF, Bool.and_eq_true, ih]
    constructor
    · rintro ⟨h1, h2⟩ j h3 h4
      by_cases e : j = i
      · rw [e]; exact h1
      · exact h2 j (by omega) (by omega)
    · intro h
      exact ⟨h i (by omega) (by omega), fun j h1 h2 => h j (by omega) (by omega)⟩
theorem ev_now {α : Type} {g : Nat → Option α} {r : α} (h : ∀ k, g (k + 1) = some r) : Ev g r :=
  ⟨1, fun k hk => by obtain ⟨m, rfl⟩ : ∃ m, k = m + 1 := ⟨k - 1, by omega⟩; exact h m⟩
/-- Place i of the list: its name's and its text's sizes, and its name above the one ahead. -/
def mapC (l : List S47) (i : Nat) : Bool :=
  decide (1 ≤ ((l.getD i z47).f0.size : Int) ∧ ((l.getD i z47).f0.size : Int) ≤ 10) && (decide (((l.getD i z47).f1.size : Int) ≤ 40) && (decide (i = 0) || Op.bytesLess (l.getD (i - 1) z47).f0.toList (l.getD i z47).f0.toList))
def mapCOf (l : List S47) : Bool := decide ((l.length : Int) ≤ 60) && allF (mapC l) l.length 0
/-- The names rise. -/
def srtMap (l : List S47) : Prop := ∀ i j, i < j → j < l.length → bl (l.getD i z47).f0 < bl (l.getD j z47).f0
theorem mapC_srt {l : List S47} (h : mapCOf l = true) : srtMap l ∧ (l.length : Int) ≤ 60 ∧ ∀ i, i < l.length → (1 ≤ (l.getD i z47).f0.size ∧ (l.getD i z47).f0.size ≤ 10) ∧ (l.getD i z47).f1.size ≤ 40 := by
  unfold mapCOf at h
  simp only [Bool.and_eq_true, decide_eq_true_eq] at h
  have hC : ∀ i, i < l.length → mapC l i = true := fun i hi => (allF_true _ _).1 h.2 i (by omega) (by omega)
  have hadj : ∀ i, 0 < i → i < l.length → bl (l.getD (i - 1) z47).f0 < bl (l.getD i z47).f0 := fun i h0 hi => by
    have := hC i hi
    unfold mapC at this
    simp only [Bool.and_eq_true, Bool.or_eq_true, decide_eq_true_eq] at this
    have h2 := this.2.2.resolve_left (by omega)
    rw [bless, decide_eq_true_eq, ByteArray.toList_eq, ByteArray.toList_eq] at h2
    exact h2
  refine ⟨fun i j hij hj => ?_, h.1, fun i hi => ?_⟩
  · induction j with
    | zero => omega
    | succ j ih =>
      have hA := hadj (j + 1) (by omega) hj
      rw [Nat.add_sub_cancel] at hA
      by_cases e : i = j
      · rw [e]; exact hA
      · exact bl_trans (ih (by omega) (by omega)) hA
  · have := hC i hi
    unfold mapC at this
    simp only [Bool.and_eq_true, decide_eq_true_eq] at this
    omega
/-- The first place from i on with a's name; -1. -/
def posMap (l : List S47) (a : ByteArray) : Nat → Nat → Int
  | 0, _ => -1
  | d + 1, i => if (l.getD i z47).f0 = a then (i : Int) else posMap l a d (i + 1)
theorem posMap_cases (l : List S47) (a : ByteArray) (d : Nat) : ∀ i, (∃ p, i ≤ p ∧ p < i + d ∧ (l.getD p z47).f0 = a ∧ posMap l a d i = (p : Int)) ∨ ((∀ p, i ≤ p → p < i + d → (l.getD p z47).f0 ≠ a) ∧ posMap l a d i = -1) := by
  induction d with
  | zero => exact fun i => Or.inr ⟨fun p h1 h2 => by omega, rfl⟩
  | succ d ih =>
    intro i
    by_cases e : (l.getD i z47).f0 = a
    · exact Or.inl ⟨i, by omega, by omega, e, by rw [posMap, if_pos e]⟩
    · rcases ih (i + 1) with ⟨p, h1, h2, h3, h4⟩ | ⟨h1, h2⟩
      · exact Or.inl ⟨p, by omega, by omega, h3, by rw [posMap, if_neg e, h4]⟩
      · refine Or.inr ⟨fun p h3 h4 => ?_, by rw [posMap, if_neg e, h2]⟩
        by_cases ep : p = i
        · rw [ep]; exact e
        · exact h1 p (by omega) (by omega)
theorem spec_l06At.ev0 (l : List S47) (a : ByteArray) (hs : l.length ≤ 1048576) (d : Nat) : ∀ i : Nat, i + d = l.length → Ev (fun k => spec_l06At.l0 k l a (i : Int)) (posMap l a d i) := by
  induction d with
  | zero =>
    intro i hi
    refine ev_now fun k => ?_
    show spec_l06At.l0 (k + 1) _ _ _ = _
    rw [spec_l06At.l0, if_neg (by omega)]
    rfl
  | succ d ih =>
    intro i hi
    have e0 : rd_T47 l (i : Int) = l.getD i z47 := rfl
    have ew : Hd (wrap64 ((i : Int) + 1) = ((i + 1 : Nat) : Int)) := Hd.mk <| by rw [w64 (by omega) (by omega)]; rfl
    by_cases e : (l.getD i z47).f0 = a
    · refine ev_now fun k => ?_
      show spec_l06At.l0 (k + 1) _ _ _ = _
      rw [spec_l06At.l0, if_pos (by omega), if_pos (by omega), e0, if_pos (by rw [e]), posMap, if_pos e]
    · rw [posMap, if_neg e]
      refine Ev.step (fun k => ?_) (ih (i + 1) (by omega))
      show spec_l06At.l0 (k + 1) _ _ _ = spec_l06At.l0 k _ _ _
      rw [spec_l06At.l0, if_pos (by omega), if_pos (by omega), e0, if_neg (fun h => e (by rw [bl_toList, bl_toList] at h; exact bl_inj h)), ew.out]
/-- What the look-up answers. -/
def mapGetOf (l : List S47) (a : ByteArray) : ByteArray × Bool := if mapCOf l = true ∧ 0 ≤ posMap l a l.length 0 then ((l.getD (posMap l a l.length 0).toNat z47).f1, true) else ((⟨#[]⟩ : ByteArray), false)
theorem spec_l01In.is (a lo hi : Int) : spec_l01In.f a lo hi = some (decide (lo ≤ a ∧ a ≤ hi)) := by
  unfold spec_l01In.f
  by_cases h : a ≥ lo
  · rw [if_pos h]
    congr 1
    simp only [decide_eq_decide]
    exact ⟨fun h' => ⟨h, h'⟩, fun h' => h'.2⟩
  · rw [if_neg h, decide_eq_false (fun h' => h h'.1)]
theorem spec_l05Key.is (s : ByteArray) : spec_l05Key.f s = some (decide (1 ≤ (s.size : Int) ∧ (s.size : Int) ≤ 10)) := by
  unfold spec_l05Key.f
  rw [spec_l01In.is, Option.bind_some]
theorem spec_MapOk.ev0 (l : List S47) (hs : l.length ≤ 1048576) (d : Nat) : ∀ (i : Nat), i + d = l.length →
    Ev (fun k => spec_MapOk.l0 k l (i : Int)) (allF (mapC l) d i) := by
  induction d with
  | zero =>
    intro i hi
    refine ev_now fun k => ?_
    show spec_MapOk.l0 (k + 1) _ _ = _
    rw [spec_MapOk.l0, if_neg (by omega)]
    rfl
  | succ d ih =>
    intro i hi
    have e0 : rd_T47 l (i : Int) = l.getD i z47 := rfl
    by_cases h1 : 1 ≤ ((l.getD i z47).f0.size : Int) ∧ ((l.getD i z47).f0.size : Int) ≤ 10
    · by_cases hv : ((l.getD i z47).f1.size : Int) ≤ 40
      · by_cases h2 : i = 0
        · have hC : mapC l i = true := by simp only [mapC, decide_eq_true h1, decide_eq_true hv, decide_eq_true h2, Bool.true_or, Bool.and_true]
          simp only [allF, hC, Bool.true_and]
          refine Ev.step (fun k => ?_) (ih (i + 1) (by omega))
          show spec_MapOk.l0 (k + 1) _ _ = spec_MapOk.l0 k _ _
          rw [spec_MapOk.l0, if_pos (by omega), if_pos (by omega), e0, spec_l05Key.is, decide_eq_true h1]
          simp only [Option.bind_some, if_true]
          rw [if_neg (by omega), if_neg (by omega), w64 (by omega) (by omega)]
          rfl
        · have e2 : Hd (wrap64 ((i : Int) - 1) = ((i - 1 : Nat) : Int)) := Hd.mk <| by rw [w64 (by omega) (by omega)]; omega
          have e1 : rd_T47 l ((i - 1 : Nat) : Int) = l.getD (i - 1) z47 := rfl
          by_cases h3 : Op.bytesLess (l.getD (i - 1) z47).f0.toList (l.getD i z47).f0.toList = true
          · have hC : mapC l i = true := by simp only [mapC, decide_eq_true h1, decide_eq_true hv, h3, Bool.or_true, Bool.and_true]
            simp only [allF, hC, Bool.true_and]
            refine Ev.step (fun k => ?_) (ih (i + 1) (by omega))
            show spec_MapOk.l0 (k + 1) _ _ = spec_MapOk.l0 k _ _
            rw [spec_MapOk.l0, if_pos (by omega), if_pos (by omega), e0, spec_l05Key.is, decide_eq_true h1]
            simp only [Option.bind_some, if_true]
            rw [if_neg (by omega), if_pos (by omega), e2.out, if_pos (by omega), if_pos (by omega), e1, if_pos h3, w64 (x := (i : Int) + 1) (by omega) (by omega)]
            rfl
          · have hC : mapC l i = false := by simp only [mapC, decide_eq_true h1, decide_eq_true hv, Bool.eq_false_iff.2 h3, decide_eq_false h2, Bool.or_false, Bool.and_false]
            simp only [allF, hC, Bool.false_and]
            refine ev_now fun k => ?_
            show spec_MapOk.l0 (k + 1) _ _ = _
            rw [spec_MapOk.l0, if_pos (by omega), if_pos (by omega), e0, spec_l05Key.is, decide_eq_true h1]
            simp only [Option.bind_some, if_true]
            rw [if_neg (by omega), if_pos (by omega), e2.out, if_pos (by omega), if_pos (by omega), e1, if_neg h3]
      · have hC : mapC l i = false := by simp only [mapC, decide_eq_false hv, Bool.false_and, Bool.and_false]
        simp only [allF, hC, Bool.false_and]
        refine ev_now fun k => ?_
        show spec_MapOk.l0 (k + 1) _ _ = _
        rw [spec_MapOk.l0, if_pos (by omega), if_pos (by omega), e0, spec_l05Key.is, decide_eq_true h1]
        simp only [Option.bind_some, if_true]
        rw [if_pos (by omega)]
    · have hC : mapC l i = false := by simp only [mapC, decide_eq_false h1, Bool.false_and]
      simp only [allF, hC, Bool.false_and]
      refine ev_now fun k => ?_
      show spec_MapOk.l0 (k + 1) _ _ = _
      rw [spec_MapOk.l0, if_pos (by omega), if_pos (by omega), e0, spec_l05Key.is, decide_eq_false h1]
      simp
theorem spec_MapOk.ev (l : List S47) (hs : l.length ≤ 1048576) : Ev (fun k => spec_MapOk.f k l) (mapCOf l) := by
  unfold mapCOf
  by_cases hc : (l.length : Int) ≤ 60
  · obtain ⟨K, h⟩ := spec_MapOk.ev0 l hs l.length 0 (by omega)
    refine ⟨K, fun k hk => ?_⟩
    show spec_MapOk.f k _ = _
    unfold spec_MapOk.f
    rw [if_neg (by omega), decide_eq_true hc, Bool.true_and]
    exact h k hk
  · refine ⟨0, fun k hk => ?_⟩
    show spec_MapOk.f k _ = _
    unfold spec_MapOk.f
    rw [if_pos (by omega), decide_eq_false hc, Bool.false_and]
theorem spec_l06At.ev (l : List S47) (a : ByteArray) (hs : l.length ≤ 1048576) : Ev (fun k => spec_l06At.f k l a) (posMap l a l.length 0) := by
  obtain ⟨K, h⟩ := spec_l06At.ev0 l a hs l.length 0 (by omega)
  exact ⟨K, fun k hk => h k hk⟩
theorem spec_l06Get.ev (l : List S47) (a : ByteArray) (hs : l.length ≤ 1048576) (h0 : 0 ≤ posMap l a l.length 0) : Ev (fun k => spec_l06Get.f k l a) (l.getD (posMap l a l.length 0).toNat z47).f1 := by
  obtain ⟨K, h⟩ := spec_l06At.ev l a hs
  dsimp only at h
  refine ⟨K, fun k hk => ?_⟩
  show spec_l06Get.f k _ _ = _
  unfold spec_l06Get.f
  have hlt : posMap l a l.length 0 < (l.length : Int) := by
    rcases posMap_cases l a l.length 0 with ⟨p, h1, h2, h3, h4⟩ | ⟨h1, h2⟩
    · rw [h4]; omega
    · rw [h2]; omega
  rw [h k hk, Option.bind_some, if_neg (by omega), if_pos h0, if_pos hlt]
  rfl
theorem spec_MapGet.ev (l : List S47) (a : ByteArray) (hs : l.length ≤ 1048576) : Ev (fun k => spec_MapGet.f k l a) (mapGetOf l a) := by
  obtain ⟨K0, h0⟩ := spec_MapOk.ev l hs
  obtain ⟨K1, h1⟩ := spec_l06At.ev l a hs
  dsimp only at h0 h1
  unfold mapGetOf
  by_cases hm : mapCOf l = true
  · by_cases hp : 0 ≤ posMap l a l.length 0
    · obtain ⟨K2, h2⟩ := spec_l06Get.ev l a hs hp
      dsimp only at h2
      refine ⟨K0 + K1 + K2, fun k hk => ?_⟩
      show spec_MapGet.f k _ _ = _
      unfold spec_MapGet.f
      rw [h0 k (by omega), Option.bind_some, if_pos hm, h1 k (by omega), Option.bind_some, if_neg (by omega), h2 k (by omega), Option.bind_some, if_pos ⟨hm, hp⟩]
    · refine ⟨K0 + K1, fun k hk => ?_⟩
      show spec_MapGet.f k _ _ = _
      unfold spec_MapGet.f
      rw [h0 k (by omega), Option.bind_some, if_pos hm, h1 k (by omega), Option.bind_some, if_pos (by omega), if_neg (fun h => hp h.2)]
  · refine ⟨K0, fun k hk => ?_⟩
    show spec_MapGet.f k _ _ = _
    unfold spec_MapGet.f
    rw [h0 k (by omega), Option.bind_some, if_neg hm, if_neg (fun h => hm h.1)]
theorem impl_within.is (a lo hi : Int) : impl_within.f a lo hi = some (decide (lo ≤ a ∧ a ≤ hi)) := by
  unfold impl_within.f
  by_cases h : a ≥ lo
  · rw [if_pos h]
    congr 1
    simp only [decide_eq_decide]
    exact ⟨fun h' => ⟨h, h'⟩, fun h' => h'.2⟩
  · rw [if_neg h, decide_eq_false (fun h' => h h'.1)]
theorem impl_keyOk.is (s : ByteArray) : impl_keyOk.f s = some (decide (1 ≤ (s.size : Int) ∧ (s.size : Int) ≤ 10)) := by
  unfold impl_keyOk.f
  rw [impl_within.is, Option.bind_some]
theorem impl_MapOk.ev0 (l : List S47) (hs : l.length ≤ 1048576) (d : Nat) : ∀ (i : Nat), i + d = l.length →
    Ev (fun k => impl_MapOk.l0 k l l (l.length : Int) (i : Int)) (allF (mapC l) d i && decide ((l.length : Int) ≤ 60)) := by
  induction d with
  | zero =>
    intro i hi
    refine ev_now fun k => ?_
    show impl_MapOk.l0 (k + 1) _ _ _ _ = _
    rw [impl_MapOk.l0, if_neg (by omega)]
    simp [allF]
  | succ d ih =>
    intro i hi
    have e0 : rd_T47 l (i : Int) = l.getD i z47 := rfl
    by_cases h1 : 1 ≤ ((l.getD i z47).f0.size : Int) ∧ ((l.getD i z47).f0.size : Int) ≤ 10
    · by_cases hv : ((l.getD i z47).f1.size : Int) ≤ 40
      · by_cases h2 : i = 0
        · have hC : mapC l i = true := by simp only [mapC, decide_eq_true h1, decide_eq_true hv, decide_eq_true h2, Bool.true_or, Bool.and_true]
          simp only [allF, hC, Bool.true_and]
          refine Ev.step (fun k => ?_) (ih (i + 1) (by omega))
          show impl_MapOk.l0 (k + 1) _ _ _ _ = impl_MapOk.l0 k _ _ _ _
          rw [impl_MapOk.l0, if_pos (by omega), if_pos (by omega), if_pos (by omega), e0, impl_keyOk.is, decide_eq_true h1]
          simp only [Option.bind_some, if_true]
          rw [if_neg (by omega), if_neg (by omega), w64 (by omega) (by omega)]
          rfl
        · have e2 : Hd (wrap64 ((i : Int) - 1) = ((i - 1 : Nat) : Int)) := Hd.mk <| by rw [w64 (by omega) (by omega)]; omega
          have e1 : rd_T47 l ((i - 1 : Nat) : Int) = l.getD (i - 1) z47 := rfl
          by_cases h3 : Op.bytesLess (l.getD (i - 1) z47).f0.toList (l.getD i z47).f0.toList = true
          · have hC : mapC l i = true := by simp only [mapC, decide_eq_true h1, decide_eq_true hv, h3, Bool.or_true, Bool.and_true]
            simp only [allF, hC, Bool.true_and]
            refine Ev.step (fun k => ?_) (ih (i + 1) (by omega))
            show impl_MapOk.l0 (k + 1) _ _ _ _ = impl_MapOk.l0 k _ _ _ _
            rw [impl_MapOk.l0, if_pos (by omega), if_pos (by omega), if_pos (by omega), e0, impl_keyOk.is, decide_eq_true h1]
            simp only [Option.bind_some, if_true]
            rw [if_neg (by omega), if_pos (by omega), e2.out, if_pos (by omega), if_pos (by omega), e1, if_pos h3, w64 (x := (i : Int) + 1) (by omega) (by omega)]
            rfl
          · have hC : mapC l i = false := by simp only [mapC, decide_eq_true h1, decide_eq_true hv, Bool.eq_false_iff.2 h3, decide_eq_false h2, Bool.or_false, Bool.and_false]
            simp only [allF, hC, Bool.false_and]
            refine ev_now fun k => ?_
            show impl_MapOk.l0 (k + 1) _ _ _ _ = _
            rw [impl_MapOk.l0, if_pos (by omega), if_pos (by omega), if_pos (by omega), e0, impl_keyOk.is, decide_eq_true h1]
            simp only [Option.bind_some, if_true]
            rw [if_neg (by omega), if_pos (by omega), e2.out, if_pos (by omega), if_pos (by omega), e1, if_neg h3]
      · have hC : mapC l i = false := by simp only [mapC, decide_eq_false hv, Bool.false_and, Bool.and_false]
        simp only [allF, hC, Bool.false_and]
        refine ev_now fun k => ?_
        show impl_MapOk.l0 (k + 1) _ _ _ _ = _
        rw [impl_MapOk.l0, if_pos (by omega), if_pos (by omega), if_pos (by omega), e0, impl_keyOk.is, decide_eq_true h1]
        simp only [Option.bind_some, if_true]
        rw [if_pos (by omega)]
    · have hC : mapC l i = false := by simp only [mapC, decide_eq_false h1, Bool.false_and]
      simp only [allF, hC, Bool.false_and]
      refine ev_now fun k => ?_
      show impl_MapOk.l0 (k + 1) _ _ _ _ = _
      rw [impl_MapOk.l0, if_pos (by omega), if_pos (by omega), if_pos (by omega), e0, impl_keyOk.is, decide_eq_false h1]
      simp
theorem impl_MapOk.ev (l : List S47) (hs : l.length ≤ 1048576) : Ev (fun k => impl_MapOk.f k l) (mapCOf l) := by
  unfold mapCOf
  obtain ⟨K, h⟩ := impl_MapOk.ev0 l hs l.length 0 (by omega)
  rw [Bool.and_comm]
  exact ⟨K, fun k hk => h k hk⟩
theorem impl_pairNo.cmp_eq (l : List S47) (a : ByteArray) (i : Nat) : impl_pairNo.cmp l a i = Lib.compareBytes (bl (l.getD i z47).f0) (bl a) := rfl
theorem impl_pairNo.mono_of {l : List S47} (h : srtMap l) (hl : (l.length : Int) ≤ 1048576) (a : ByteArray) : impl_pairNo.mono0 l a = true := by
  unfold impl_pairNo.mono0
  simp only [Bool.and_eq_true, decide_eq_true_eq, List.all_eq_true, List.mem_range, Bool.or_eq_true, Bool.not_eq_true', decide_eq_false_iff_not]
  refine ⟨by omega, fun b hb i hi => ?_⟩
  by_cases hc : impl_pairNo.cmp l a b < 0
  · right
    rw [impl_pairNo.cmp_eq, cmpB_lt] at hc ⊢
    by_cases e : i = b
    · rw [e]; exact hc
    · exact bl_trans (h i b (by omega) hb) hc
  · exact Or.inl hc
theorem impl_pairNo.found {l : List S47} (h : srtMap l) (hl : (l.length : Int) ≤ 1048576) (a : ByteArray) (p : Nat) (hp : p < l.length) (he : (l.getD p z47).f0 = a) : impl_pairNo.f l a = some ((p : Int), true) := by
  have hcnt : impl_pairNo.cnt l a = p := impl_pairNo.cnt_eq p (by omega) (fun t ht => by
    rw [impl_pairNo.cmp_eq, cmpB_lt, ← he]
    exact h t p ht hp) (fun t h1 h2 => Int.not_lt.1 fun hc => by
    rw [impl_pairNo.cmp_eq, cmpB_lt, ← he] at hc
    by_cases e : p = t
    · rw [e] at hc; exact bl_irrefl _ hc
    · exact bl_irrefl _ (bl_trans hc (h p t (by omega) h2)))
  unfold impl_pairNo.f
  rw [if_pos (impl_pairNo.mono_of h hl a), hcnt, decide_eq_true hp, impl_pairNo.cmp_eq, he, decide_eq_true ((cmpB_eq _ _).2 rfl)]
  rfl
/-- The place behind the names that are below a. -/
theorem splitMap (l : List S47) (h : srtMap l) (a : ByteArray) : ∃ c, c ≤ l.length ∧ (∀ t, t < c → bl (l.getD t z47).f0 < bl a) ∧ (∀ t, c ≤ t → t < l.length → ¬ bl (l.getD t z47).f0 < bl a) := by
  have : ∀ n, n ≤ l.length → ∃ c, c ≤ n ∧ (∀ t, t < c → bl (l.getD t z47).f0 < bl a) ∧ (∀ t, c ≤ t → t < n → ¬ bl (l.getD t z47).f0 < bl a) := by
    intro n
    induction n with
    | zero => exact fun _ => ⟨0, by omega, fun t ht => by omega, fun t h1 h2 => by omega⟩
    | succ n ih =>
      intro hn
      obtain ⟨c, h1, h2, h3⟩ := ih (by omega)
      by_cases hc : bl (l.getD n z47).f0 < bl a
      · refine ⟨n + 1, by omega, fun t ht => ?_, fun t h1 h2 => by omega⟩
        by_cases e : t = n
        · rw [e]; exact hc
        · exact bl_trans (h t n (by omega) (by omega)) hc
      · refine ⟨c, by omega, h2, fun t h4 h5 => ?_⟩
        by_cases e : t = n
        · rw [e]; exact hc
        · exact h3 t h4 (by omega)
  exact this l.length (Nat.le_refl _)
theorem impl_pairNo.none_ {l : List S47} (h : srtMap l) (hl : (l.length : Int) ≤ 1048576) (a : ByteArray) (hn : ∀ p, p < l.length → (l.getD p z47).f0 ≠ a) :
    ∃ c, c ≤ l.length ∧ impl_pairNo.f l a = some ((c : Int), false) ∧ (∀ t, t < c → bl (l.getD t z47).f0 < bl a) ∧ (∀ t, c ≤ t → t < l.length → bl a < bl (l.getD t z47).f0) := by
  obtain ⟨c, h1, h2, h3⟩ := splitMap l h a
  have hcnt : impl_pairNo.cnt l a = c := impl_pairNo.cnt_eq c h1 (fun t ht => by
    rw [impl_pairNo.cmp_eq, cmpB_lt]
    exact h2 t ht) (fun t h4 h5 => Int.not_lt.1 fun hc => by
    rw [impl_pairNo.cmp_eq, cmpB_lt] at hc
    exact h3 t h4 h5 hc)
  refine ⟨c, h1, ?_, h2, fun t h4 h5 => ?_⟩
  · unfold impl_pairNo.f
    rw [if_pos (impl_pairNo.mono_of h hl a), hcnt]
    by_cases hc : c < l.length
    · rw [impl_pairNo.cmp_eq, decide_eq_false (p := Lib.compareBytes _ _ = 0) (fun e => hn c hc (bl_inj ((cmpB_eq _ _).1 e))), Bool.and_false]
    · rw [decide_eq_false hc, Bool.false_and]
  · rcases bl_tri (bl a) (bl (l.getD t z47).f0) with e | e | e
    · exact e
    · exact absurd (bl_inj e).symm (hn t h5)
    · exact absurd e (h3 t h4 h5)
theorem impl_MapGet.ev (l : List S47) (a : ByteArray) (hs : l.length ≤ 1048576) : Ev (fun k => impl_MapGet.f k l a) (mapGetOf l a) := by
  obtain ⟨K0, h0⟩ := impl_MapOk.ev l hs
  dsimp only at h0
  refine ⟨K0, fun k hk => ?_⟩
  show impl_MapGet.f k _ _ = _
  unfold impl_MapGet.f mapGetOf
  rw [h0 k hk, Option.bind_some]
  by_cases hm : mapCOf l = true
  · obtain ⟨hsr, hml, _⟩ := mapC_srt hm
    rw [if_pos hm]
    rcases posMap_cases l a l.length 0 with ⟨p, h1, h2, h3, h4⟩ | ⟨h1, h2⟩
    · rw [impl_pairNo.found hsr (by omega) a p (by omega) h3, Option.bind_some, if_pos rfl, if_pos (show (0 : Int) ≤ (p : Int) by omega), if_pos (show (p : Int) < (l.length : Int) by omega), if_pos ⟨hm, by omega⟩, h4]
      rfl
    · obtain ⟨c, _, hc, _⟩ := impl_pairNo.none_ hsr (by omega) a (fun p hp => h1 p (by omega) (by omega))
      rw [hc, Option.bind_some, if_neg (by simp), if_neg (fun h => by omega)]
  · rw [if_neg hm, if_neg (fun h => hm h.1)]
theorem laws_szPair.is (a0 : ByteArray) (a1 : ByteArray) (n : Int) (h0 : 0 ≤ n) (h1 : n ≤ 1048576) (b0 : a0.size ≤ 9223372036854775807) (b1 : a1.size ≤ 9223372036854775807) : ∃ r, laws_szPair.f a0 a1 n = some r ∧ (0 ≤ r → a0.size ≤ 1048576 ∧ a1.size ≤ 1048576 ∧ r ≤ n) := by
  unfold laws_szPair.f
  rw [w64 (x := n - (a0.size : Int)) (by omega) (by omega)]
  by_cases c0 : n - (a0.size : Int) < 0
  · rw [if_pos c0]; exact ⟨_, rfl, fun h => by omega⟩
  rw [if_neg c0]
  rw [w64 (x := n - (a0.size : Int) - (a1.size : Int)) (by omega) (by omega)]
  by_cases c1 : n - (a0.size : Int) - (a1.size : Int) < 0
  · rw [if_pos c1]; exact ⟨_, rfl, fun h => by omega⟩
  rw [if_neg c1]
  exact ⟨_, rfl, fun h => by omega⟩
theorem rdL_Pair (l : List S116) (n : Nat) (h : n < l.length) : rd_T116 l (n : Int) = l[n] := by
  show l.getD n z116 = _
  simp [List.getD_eq_getElem?_getD, List.getElem?_eq_getElem h]
theorem laws_szPairS.ev0 (l : List S116) (hl : l.length ≤ 1048576) (hw : ∀ x ∈ l, x.f0.size ≤ 9223372036854775807 ∧ x.f1.size ≤ 9223372036854775807) (d : Nat) : ∀ (i : Nat) (n : Int), i + d = l.length → 0 ≤ n → n ≤ 1048576 →
    ∃ r, Ev (fun k => laws_szPairS.l0 k l n (i : Int)) r ∧ (0 ≤ r → (∀ x ∈ l.drop i, x.f0.size ≤ 1048576 ∧ x.f1.size ≤ 1048576) ∧ r ≤ n) := by
  induction d with
  | zero =>
    intro i n hi h0 h1
    refine ⟨n, ⟨1, fun k hk => ?_⟩, fun _ => ⟨fun x hx => (by rw [List.drop_eq_nil_of_le (by omega)] at hx; cases hx), by omega⟩⟩
    obtain ⟨k, rfl⟩ : ∃ m, k = m + 1 := ⟨k - 1, by omega⟩
    show laws_szPairS.l0 (k + 1) _ _ _ = _
    rw [laws_szPairS.l0, if_neg (by omega)]
  | succ d ih =>
    intro i n hi h0 h1
    have hlt : i < l.length := by omega
    have hm := hw l[i] (List.getElem_mem hlt)
    obtain ⟨r, hr, hf⟩ := laws_szPair.is l[i].f0 l[i].f1 n h0 h1 (by omega) (by omega)
    by_cases hneg : r < 0
    · refine ⟨-1, ⟨1, fun k hk => ?_⟩, fun h => by omega⟩
      obtain ⟨k, rfl⟩ : ∃ m, k = m + 1 := ⟨k - 1, by omega⟩
      show laws_szPairS.l0 (k + 1) _ _ _ = _
      rw [laws_szPairS.l0, if_pos (by omega), if_pos (by omega), rdL_Pair l i hlt, hr, Option.bind_some, if_pos hneg]
    · have hf' := hf (by omega)
      obtain ⟨r', h', hf2⟩ := ih (i + 1) r (by omega) (by omega) (by omega)
      refine ⟨r', Ev.step (fun k => ?_) h', fun hr' => ⟨fun x hx => ?_, by have := (hf2 hr').2; omega⟩⟩
      · show laws_szPairS.l0 (k + 1) _ _ _ = laws_szPairS.l0 k _ _ _
        rw [laws_szPairS.l0, if_pos (by omega), if_pos (by omega), rdL_Pair l i hlt, hr, Option.bind_some, if_neg hneg, w64 (by omega) (by omega)]
        rfl
      · rw [List.drop_eq_getElem_cons hlt] at hx
        rcases List.mem_cons.1 hx with rfl | hx
        · omega
        · exact (hf2 hr').1 x hx
theorem laws_szPairS.ev (l : List S116) (hl : l.length ≤ 9223372036854775807) (hw : ∀ x ∈ l, x.f0.size ≤ 9223372036854775807 ∧ x.f1.size ≤ 9223372036854775807) (n : Int) (h0 : 0 ≤ n) (h1 : n ≤ 1048576) :
    ∃ r, Ev (fun k => laws_szPairS.f k l n) r ∧ (0 ≤ r → l.length ≤ 1048576 ∧ (∀ x ∈ l, x.f0.size ≤ 1048576 ∧ x.f1.size ≤ 1048576) ∧ r ≤ n) := by
  have e : Hd (wrap64 (n - (l.length : Int)) = n - (l.length : Int)) := Hd.mk <| w64 (by omega) (by omega)
  by_cases h : n - (l.length : Int) < 0
  · refine ⟨-1, ⟨0, fun k hk => ?_⟩, fun h => by omega⟩
    show laws_szPairS.f k _ _ = _
    unfold laws_szPairS.f
    rw [e.out, if_pos h]
  · obtain ⟨r, ⟨K, hK⟩, hf⟩ := laws_szPairS.ev0 l (by omega) hw l.length 0 (n - (l.length : Int)) (by omega) (by omega) (by omega)
    refine ⟨r, ⟨K, fun k hk => ?_⟩, fun h => ⟨by omega, (hf h).1, by have := (hf h).2; omega⟩⟩
    show laws_szPairS.f k _ _ = _
    unfold laws_szPairS.f
    rw [e.out, if_neg h]
    exact hK k hk
def cvPair (x : S116) : S47 := ⟨x.f0, x.f1⟩
theorem laws_toPairS.ev0 (l : List S116) (hs : l.length ≤ 1048576) (d : Nat) : ∀ (i : Nat) (x : List S47), i + d = l.length → x.length = l.length → x.take i = (l.map cvPair).take i →
    Ev (fun k => laws_toPairS.l0 k l x (i : Int)) (l.map cvPair) := by
  have hml : (l.map cvPair).length = l.length := by simp
  induction d with
  | zero =>
    intro i x hi hx he
    refine ⟨1, fun k hk => ?_⟩
    obtain ⟨k, rfl⟩ : ∃ m, k = m + 1 := ⟨k - 1, by omega⟩
    show laws_toPairS.l0 (k + 1) _ _ _ = _
    rw [laws_toPairS.l0, if_neg (by omega)]
    rw [List.take_of_length_le (by omega), List.take_of_length_le (by omega)] at he
    rw [he]
  | succ d ih =>
    intro i x hi hx he
    have hlt : i < l.length := by omega
    refine Ev.step (fun k => ?_) (ih (i + 1) (x.set i (cvPair l[i])) (by omega) (by simp; omega) ?_)
    · show laws_toPairS.l0 (k + 1) _ _ _ = laws_toPairS.l0 k _ _ _
      rw [laws_toPairS.l0, if_pos (by omega), if_pos (by omega), rdL_Pair l i hlt]
      unfold laws_toPair.f
      rw [Option.bind_some, if_pos (by omega), w64 (by omega) (by omega)]
      rfl
    · rw [List.take_succ_eq_append_getElem (by simp; omega), List.take_succ_eq_append_getElem (by simp; omega), List.take_set_of_le (by omega), he]
      simp
theorem laws_toPairS.ev (l : List S116) (hs : l.length ≤ 1048576) : Ev (fun k => laws_toPairS.f k l) (l.map cvPair) := by
  obtain ⟨K, h⟩ := laws_toPairS.ev0 l hs l.length 0 (List.replicate l.length z47) (by omega) (by simp) (by simp)
  dsimp only at h
  refine ⟨K, fun k hk => ?_⟩
  show laws_toPairS.f k _ = _
  unfold laws_toPairS.f
  rw [if_pos (by omega), if_pos (by omega)]
  exact h k hk
theorem laws_eqPair.refl (a0 : ByteArray) (a1 : ByteArray) : laws_eqPair.f a0 a1 a0 a1 = some true := by
  unfold laws_eqPair.f
  simp
theorem laws_eqPairS.ev0 (l : List S47) (hs : l.length ≤ 1048576) (d : Nat) : ∀ (i : Nat), i + d = l.length → Ev (fun k => laws_eqPairS.l0 k l l (i : Int)) true := by
  induction d with
  | zero =>
    intro i hi
    refine ⟨1, fun k hk => ?_⟩
    obtain ⟨k, rfl⟩ : ∃ m, k = m + 1 := ⟨k - 1, by omega⟩
    show laws_eqPairS.l0 (k + 1) _ _ _ = _
    rw [laws_eqPairS.l0, if_neg (by omega)]
  | succ d ih =>
    intro i hi
    refine Ev.step (fun k => ?_) (ih (i + 1) (by omega))
    show laws_eqPairS.l0 (k + 1) _ _ _ = laws_eqPairS.l0 k _ _ _
    rw [laws_eqPairS.l0, if_pos (by omega), if_pos (by omega), if_pos (by omega), laws_eqPair.refl, Option.bind_some, if_pos rfl, w64 (by omega) (by omega)]
    rfl
theorem laws_eqPairS.ev (l : List S47) (hs : l.length ≤ 1048576) : Ev (fun k => laws_eqPairS.f k l l) true := by
  obtain ⟨K, h⟩ := laws_eqPairS.ev0 l hs l.length 0 (by omega)
  refine ⟨K, fun k hk => ?_⟩
  show laws_eqPairS.f k _ _ = _
  unfold laws_eqPairS.f
  rw [if_pos rfl]
  exact h k hk
theorem FnExactMapGet : ∀ (l0 : List S116) (a1 : ByteArray), (l0.length ≤ maxLen ∧ ∀ y ∈ l0, (y.f0.size ≤ maxLen) ∧ (y.f1.size ≤ maxLen)) → (a1.size ≤ maxLen) → ∃ k, laws_FnExactMapGet.f k l0 a1 = some true := by
  intro l a hw ha
  unfold maxLen at hw
  by_cases hbig : (a.size : Int) > 1048576
  · refine ⟨0, ?_⟩
    unfold laws_FnExactMapGet.f
    rw [if_pos hbig]
  obtain ⟨r, ⟨K0, h0⟩, hf⟩ := laws_szPairS.ev l hw.1 hw.2 1048576 (by omega) (by omega)
  dsimp only at h0
  by_cases hr : r < 0
  · refine ⟨K0, ?_⟩
    unfold laws_FnExactMapGet.f
    rw [if_neg hbig, h0 _ (by omega), Option.bind_some, if_pos hr]
  obtain ⟨hl, hsz, _⟩ := hf (by omega)
  have hml : (l.map cvPair).length ≤ 1048576 := by simpa using hl
  obtain ⟨K1, h1⟩ := spec_MapGet.ev (l.map cvPair) a hml
  obtain ⟨K2, h2⟩ := impl_MapGet.ev (l.map cvPair) a hml
  obtain ⟨K3, h3⟩ := laws_toPairS.ev l hl
  obtain ⟨K4, h4⟩ := laws_eqPairS.ev (l.map cvPair) hml
  dsimp only at h1 h2 h3 h4
  refine ⟨K0 + K1 + K2 + K3 + K4 + 1, ?_⟩
  unfold laws_FnExactMapGet.f
  rw [if_neg hbig, h0 _ (by omega), Option.bind_some, if_neg hr, h3 _ (by omega)]
  simp only [Option.bind_some]
  rw [h1 _ (by omega), h2 _ (by omega)]
  simp only [Option.bind_some, if_true, bne_self_eq_false]
  rw [laws_FnExactMapGet.j0, if_neg (by simp), h3 _ (by omega)]
  simp only [Option.bind_some]
  rw [h4 _ (by omega)]
  simp

end Go.Proofs.Ytmdenlpaahlkbaa.Pure
