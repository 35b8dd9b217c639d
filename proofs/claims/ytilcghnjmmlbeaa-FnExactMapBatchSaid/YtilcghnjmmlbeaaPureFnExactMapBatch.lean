/- The law FnExactMapBatch, over numbers and lists: for every input that the statement speaks of the printed function answers true; conditions: those of the printed statement. -/
import Derived.Test.YtilcghnjmmlbeaaQFnExactMapBatchx1
import Derived.Test.YtilcghnjmmlbeaaQFnExactMapBatchx2
import Derived.Test.YtilcghnjmmlbeaaQFnExactMapBatchx3
import Derived.Test.YtilcghnjmmlbeaaQFnExactMapBatchx4
import Derived.Test.YtilcghnjmmlbeaaQFnExactMapBatchx5
import Derived.Test.YtilcghnjmmlbeaaQFnExactMapBatchx6
import Derived.Laws.BitsAllLaws
namespace Go.Proofs.Ytilcghnjmmlbeaa.Pure
open Go.RowKit Go.Proofs.Ytilcghnjmmlbeaa.QFnExactMapBatch Go.Proofs.YtilcghnjmmlbeaaW.PrintWords Go.Proofs.YtilcghnjmmlbeaaW.PrintLast Go.Proofs.YtilcghnjmmlbeaaW.PrintMore
set_option linter.unusedVariables false
set_option linter.unusedSimpArgs false

/-! ### strings as lists of bytes -/
def mk (l : List UInt8) : ByteArray := ⟨l.toArray⟩
def nm (l : List UInt8) : List Int := l.map fun b => (b.toNat : Int)
theorem mk_of (s : ByteArray) : ∃ l, s = mk l := ⟨s.data.toList, rfl⟩
theorem mk_data (l : List UInt8) : (mk l).data.toList = l := rfl
theorem mk_toList (l : List UInt8) : (mk l).toList = l := by rw [ByteArray.toList_eq]; rfl
theorem mk_size (l : List UInt8) : (mk l).size = l.length := List.size_toArray
theorem mk_inj {a b : List UInt8} (h : mk a = mk b) : a = b := by rw [← mk_data a, h]; rfl
theorem mk_append (a b : List UInt8) : mk a ++ mk b = mk (a ++ b) := by
  apply ByteArray.ext
  rw [ByteArray.data_append]
  simp [mk]
theorem mk_extract (l : List UInt8) (i j : Nat) : (mk l).extract i j = mk ((l.drop i).take (j - i)) := by
  apply ByteArray.ext
  rw [ByteArray.data_extract]
  apply Array.ext'
  simp [mk, List.take_drop]
theorem mk_nil : (⟨#[]⟩ : ByteArray) = mk [] := rfl
theorem nm_append (a b : List UInt8) : nm (a ++ b) = nm a ++ nm b := by simp [nm]
theorem nm_length (a : List UInt8) : (nm a).length = a.length := by simp [nm]
theorem nm_nil : ([] : List Int) = nm [] := rfl
theorem strOf_nm (l : List UInt8) : strOfNums (nm l) = mk l := by
  unfold strOfNums nm mk
  rw [List.map_map]
  congr 1
  have : ∀ l : List UInt8, List.map ((fun n : Int => UInt8.ofNat n.toNat) ∘ fun b : UInt8 => (b.toNat : Int)) l = l := by
    intro l
    induction l with
    | nil => rfl
    | cons a l ih => rw [List.map_cons, ih]; simp
  rw [this]
theorem bt_mk (l : List UInt8) (n : Nat) (h : n < l.length) : bt (mk l) (n : Int) = ((l[n]).toNat : Int) := by
  unfold bt
  rw [dif_pos (show (n : Int).toNat < (mk l).size by rw [mk_size]; omega)]
  rfl
/-- A fact that omega doesn't look into. -/
structure Hd (p : Prop) : Prop where
  mk :: (out : p)
theorem w64 {x : Int} (h0 : -9223372036854775808 ≤ x) (h1 : x ≤ 9223372036854775807) : wrap64 x = x := by
  unfold wrap64
  omega
theorem nm_u8 (n : Nat) (h : n < 256) : nm [UInt8.ofNat n] = [(n : Int)] := by
  simp [nm]
  omega
theorem tmod_nat (x d : Nat) : Int.tmod (x : Int) (d : Int) = ((x % d : Nat) : Int) := by
  rw [Int.tmod_eq_emod_of_nonneg (by omega)]
  exact (Int.natCast_emod x d).symm
theorem tdiv_nat (x d : Nat) : Int.tdiv (x : Int) (d : Int) = ((x / d : Nat) : Int) := by
  rw [Int.tdiv_eq_ediv_of_nonneg (by omega)]
  exact (Int.natCast_ediv x d).symm
theorem drop_cons (l : List UInt8) (i : Nat) (h : i < l.length) : l.drop i = l[i] :: l.drop (i + 1) := List.drop_eq_getElem_cons h
/-- C holds at i, i + 1, .., d of them. -/
def allF (C : Nat → Bool) : Nat → Nat → Bool
  | 0, _ => true
  | d + 1, i => C i && allF C d (i + 1)
theorem allF_congr {C D : Nat → Bool} (d : Nat) : ∀ i, (∀ j, i ≤ j → j < i + d → C j = D j) → allF C d i = allF D d i := by
  induction d with
  | zero => intro i h; rfl
  | succ d ih =>
    intro i h
    simp only [allF]
    rw [h i (by omega) (by omega), ih (i + 1) (fun j h1 h2 => h j (by omega) (by omega))]
theorem allF_true {C : Nat → Bool} (d : Nat) : ∀ i, allF C d i = true ↔ ∀ j, i ≤ j → j < i + d → C j = true := by
  induction d with
  | zero => intro i; simp only [allF, true_iff]; intro j h1 h2; omega
  | succ d ih =>
    intro i
    simp only [allF, Bool.and_eq_true, ih]
    constructor
    · rintro ⟨h1, h2⟩ j h3 h4
      by_cases e : j = i
      · rw [e]; exact h1
      · exact h2 j (by omega) (by omega)
    · intro h
      exact ⟨h i (by omega) (by omega), fun j h1 h2 => h j (by omega) (by omega)⟩
theorem ev_now {α : Type} {g : Nat → Option α} {r : α} (h : ∀ k, g (k + 1) = some r) : Ev g r :=
  ⟨1, fun k hk => by obtain ⟨m, rfl⟩ : ∃ m, k = m + 1 := ⟨k - 1, by omega⟩; exact h m⟩
/-- Place i of the list: its name's and its text's sizes, and its name above the one ahead. -/
def mapC (l : List S107) (i : Nat) : Bool :=
  decide (1 ≤ ((l.getD i z107).f0.size : Int) ∧ ((l.getD i z107).f0.size : Int) ≤ 10) && (decide (((l.getD i z107).f1.size : Int) ≤ 40) && (decide (i = 0) || Op.bytesLess (l.getD (i - 1) z107).f0.toList (l.getD i z107).f0.toList))
def mapCOf (l : List S107) : Bool := decide ((l.length : Int) ≤ 60) && allF (mapC l) l.length 0
def chC (l : List S96) (i : Nat) : Bool :=
  decide (1 ≤ ((l.getD i z96).f0.size : Int) ∧ ((l.getD i z96).f0.size : Int) ≤ 10) && decide (¬ ((l.getD i z96).f1.size : Int) > 40) &&
    (!(l.getD i z96).f2 || decide ((l.getD i z96).f1.toList = [])) && (decide (i = 0) || Op.bytesLess (l.getD (i - 1) z96).f0.toList (l.getD i z96).f0.toList)
def batchOf (a : Int) (l : List S96) : Bool := decide (0 ≤ a ∧ a ≤ 100000) && decide (¬ (l.length : Int) > 60) && allF (chC l) l.length 0
theorem rdI_Pair (l : List S107) (n : Nat) (h : n < l.length) : rd_T107 l (n : Int) = l[n] := by
  show l.getD n z107 = _
  simp [List.getD_eq_getElem?_getD, List.getElem?_eq_getElem h]
theorem rdI_Change (l : List S96) (n : Nat) (h : n < l.length) : rd_T96 l (n : Int) = l[n] := by
  show l.getD n z96 = _
  simp [List.getD_eq_getElem?_getD, List.getElem?_eq_getElem h]
def chOf (x : S107) : S96 := ⟨x.f0, x.f1, false⟩
theorem bytesLess_trans : True := trivial
theorem mapC_ch (l : List S107) (i : Nat) (hi : i < l.length) : chC (l.map chOf) i = mapC l i := by
  have e : ∀ j, j < l.length → (l.map chOf).getD j z96 = chOf (l.getD j z107) := fun j hj => by
    simp [List.getD_eq_getElem?_getD, List.getElem?_eq_getElem hj]
  unfold chC mapC
  rw [e i hi, e (i - 1) (by omega)]
  generalize l.getD i z107 = x
  generalize l.getD (i - 1) z107 = y
  unfold chOf
  by_cases h1 : 1 ≤ (x.f0.size : Int) ∧ (x.f0.size : Int) ≤ 10 <;> by_cases hv : (x.f1.size : Int) ≤ 40 <;> simp [h1, hv] <;> omega
theorem batchOf_map (l : List S107) (v : Int) : batchOf v (l.map chOf) = (decide (0 ≤ v ∧ v ≤ 100000) && mapCOf l) := by
  unfold batchOf mapCOf
  rw [List.length_map, allF_congr _ _ (fun j h1 h2 => mapC_ch l j (by omega)), Bool.and_assoc]
  congr 2
  rw [decide_eq_decide]
  omega
def mapBatchOf (l : List S107) (v : Int) : Int × List S96 × Bool := if mapCOf l = true ∧ 0 ≤ v ∧ v ≤ 100000 then (v, l.map chOf, true) else (0, [], false)
theorem spec_l01In.is (a lo hi : Int) : spec_l01In.f a lo hi = some (decide (lo ≤ a ∧ a ≤ hi)) := by
  unfold spec_l01In.f
  by_cases h : a ≥ lo
  · rw [if_pos h]
    congr 1
    simp only [decide_eq_decide]
    exact ⟨fun h' => ⟨h, h'⟩, fun h' => h'.2⟩
  · rw [if_neg h, decide_eq_false (fun h' => h h'.1)]
theorem spec_l05Key.is (s : ByteArray) : spec_l05Key.f s = some (decide (1 ≤ (s.size : Int) ∧ (s.size : Int) ≤ 10)) := by
  unfold spec_l05Key.f
  rw [spec_l01In.is, Option.bind_some]
theorem spec_MapOk.ev0 (l : List S107) (hs : l.length ≤ 1048576) (d : Nat) : ∀ (i : Nat), i + d = l.length →
    Ev (fun k => spec_MapOk.l0 k l (i : Int)) (allF (mapC l) d i) := by
  induction d with
  | zero =>
    intro i hi
    refine ev_now fun k => ?_
    show spec_MapOk.l0 (k + 1) _ _ = _
    rw [spec_MapOk.l0, if_neg (by omega)]
    rfl
  | succ d ih =>
    intro i hi
    have e0 : rd_T107 l (i : Int) = l.getD i z107 := rfl
    by_cases h1 : 1 ≤ ((l.getD i z107).f0.size : Int) ∧ ((l.getD i z107).f0.size : Int) ≤ 10
    · by_cases hv : ((l.getD i z107).f1.size : Int) ≤ 40
      · by_cases h2 : i = 0
        · have hC : mapC l i = true := by simp only [mapC, decide_eq_true h1, decide_eq_true hv, decide_eq_true h2, Bool.true_or, Bool.and_true]
          simp only [allF, hC, Bool.true_and]
          refine Ev.step (fun k => ?_) (ih (i + 1) (by omega))
          show spec_MapOk.l0 (k + 1) _ _ = spec_MapOk.l0 k _ _
          rw [spec_MapOk.l0, if_pos (by omega), if_pos (by omega), e0, spec_l05Key.is, decide_eq_true h1]
          simp only [Option.bind_some, if_true]
          rw [if_neg (by omega), if_neg (by omega), w64 (by omega) (by omega)]
          rfl
        · have e2 : Hd (wrap64 ((i : Int) - 1) = ((i - 1 : Nat) : Int)) := Hd.mk <| by rw [w64 (by omega) (by omega)]; omega
          have e1 : rd_T107 l ((i - 1 : Nat) : Int) = l.getD (i - 1) z107 := rfl
          by_cases h3 : Op.bytesLess (l.getD (i - 1) z107).f0.toList (l.getD i z107).f0.toList = true
          · have hC : mapC l i = true := by simp only [mapC, decide_eq_true h1, decide_eq_true hv, h3, Bool.or_true, Bool.and_true]
            simp only [allF, hC, Bool.true_and]
            refine Ev.step (fun k => ?_) (ih (i + 1) (by omega))
            show spec_MapOk.l0 (k + 1) _ _ = spec_MapOk.l0 k _ _
            rw [spec_MapOk.l0, if_pos (by omega), if_pos (by omega), e0, spec_l05Key.is, decide_eq_true h1]
            simp only [Option.bind_some, if_true]
            rw [if_neg (by omega), if_pos (by omega), e2.out, if_pos (by omega), if_pos (by omega), e1, if_pos h3, w64 (x := (i : Int) + 1) (by omega) (by omega)]
            rfl
          · have hC : mapC l i = false := by simp only [mapC, decide_eq_true h1, decide_eq_true hv, Bool.eq_false_iff.2 h3, decide_eq_false h2, Bool.or_false, Bool.and_false]
            simp only [allF, hC, Bool.false_and]
            refine ev_now fun k => ?_
            show spec_MapOk.l0 (k + 1) _ _ = _
            rw [spec_MapOk.l0, if_pos (by omega), if_pos (by omega), e0, spec_l05Key.is, decide_eq_true h1]
            simp only [Option.bind_some, if_true]
            rw [if_neg (by omega), if_pos (by omega), e2.out, if_pos (by omega), if_pos (by omega), e1, if_neg h3]
      · have hC : mapC l i = false := by simp only [mapC, decide_eq_false hv, Bool.false_and, Bool.and_false]
        simp only [allF, hC, Bool.false_and]
        refine ev_now fun k => ?_
        show spec_MapOk.l0 (k + 1) _ _ = _
        rw [spec_MapOk.l0, if_pos (by omega), if_pos (by omega), e0, spec_l05Key.is, decide_eq_true h1]
        simp only [Option.bind_some, if_true]
        rw [if_pos (by omega)]
    · have hC : mapC l i = false := by simp only [mapC, decide_eq_false h1, Bool.false_and]
      simp only [allF, hC, Bool.false_and]
      refine ev_now fun k => ?_
      show spec_MapOk.l0 (k + 1) _ _ = _
      rw [spec_MapOk.l0, if_pos (by omega), if_pos (by omega), e0, spec_l05Key.is, decide_eq_false h1]
      simp
theorem spec_MapOk.ev (l : List S107) (hs : l.length ≤ 1048576) : Ev (fun k => spec_MapOk.f k l) (mapCOf l) := by
  unfold mapCOf
  by_cases hc : (l.length : Int) ≤ 60
  · obtain ⟨K, h⟩ := spec_MapOk.ev0 l hs l.length 0 (by omega)
    refine ⟨K, fun k hk => ?_⟩
    show spec_MapOk.f k _ = _
    unfold spec_MapOk.f
    rw [if_neg (by omega), decide_eq_true hc, Bool.true_and]
    exact h k hk
  · refine ⟨0, fun k hk => ?_⟩
    show spec_MapOk.f k _ = _
    unfold spec_MapOk.f
    rw [if_pos (by omega), decide_eq_false hc, Bool.false_and]
theorem spec_MapBatch.ev0 (l : List S107) (hs : l.length ≤ 1048576) (v : Int) (d : Nat) : ∀ (i : Nat), i + d = l.length →
    Ev (fun k => spec_MapBatch.l0 k l (i : Int) v ((l.take i).map chOf)) (v, l.map chOf, true) := by
  induction d with
  | zero =>
    intro i hi
    refine ev_now fun k => ?_
    show spec_MapBatch.l0 (k + 1) _ _ _ _ = _
    rw [spec_MapBatch.l0, if_neg (by omega), List.take_of_length_le (by omega)]
  | succ d ih =>
    intro i hi
    have hlt : i < l.length := by omega
    have ew : Hd (wrap64 ((i : Int) + 1) = ((i + 1 : Nat) : Int)) := Hd.mk <| by rw [w64 (by omega) (by omega)]; rfl
    refine Ev.step (fun k => ?_) (ih (i + 1) (by omega))
    show spec_MapBatch.l0 (k + 1) _ _ _ _ = spec_MapBatch.l0 k _ _ _ _
    rw [spec_MapBatch.l0, if_pos (by omega), if_pos (by omega), if_pos (by simp; omega), rdI_Pair l i hlt, ew.out, List.take_succ_eq_append_getElem hlt, List.map_append]
    rfl
theorem spec_MapBatch.ev (l : List S107) (hs : l.length ≤ 1048576) (v : Int) : Ev (fun k => spec_MapBatch.f k l v) (mapBatchOf l v) := by
  obtain ⟨K0, h0⟩ := spec_MapOk.ev l hs
  obtain ⟨K1, h1⟩ := spec_MapBatch.ev0 l hs v l.length 0 (by omega)
  dsimp only at h0 h1
  refine ⟨K0 + K1 + 1, fun k hk => ?_⟩
  have h1' := h1 (k - 1) (by omega)
  have h0' := h0 k (by omega)
  obtain ⟨k, rfl⟩ : ∃ m, k = m + 1 := ⟨k - 1, by omega⟩
  show spec_MapBatch.f (k + 1) _ _ = _
  unfold spec_MapBatch.f mapBatchOf
  rw [h0', Option.bind_some, spec_l01In.is, Option.bind_some]
  by_cases hm : mapCOf l = true
  · by_cases hv : 0 ≤ v ∧ v ≤ 100000
    · rw [if_pos hm, if_pos ⟨hm, hv⟩, decide_eq_true hv, spec_MapBatch.j0, if_neg (by simp)]
      exact h1'
    · rw [if_pos hm, if_neg (fun h => hv h.2), decide_eq_false hv, spec_MapBatch.j0, if_pos (show (!false) = true from rfl)]
  · rw [if_neg hm, if_neg (fun h => hm h.1), spec_MapBatch.j0, if_pos rfl]
theorem impl_within.is (a lo hi : Int) : impl_within.f a lo hi = some (decide (lo ≤ a ∧ a ≤ hi)) := by
  unfold impl_within.f
  by_cases h : a ≥ lo
  · rw [if_pos h]
    congr 1
    simp only [decide_eq_decide]
    exact ⟨fun h' => ⟨h, h'⟩, fun h' => h'.2⟩
  · rw [if_neg h, decide_eq_false (fun h' => h h'.1)]
theorem impl_keyOk.is (s : ByteArray) : impl_keyOk.f s = some (decide (1 ≤ (s.size : Int) ∧ (s.size : Int) ≤ 10)) := by
  unfold impl_keyOk.f
  rw [impl_within.is, Option.bind_some]
theorem impl_MapOk.ev0 (l : List S107) (hs : l.length ≤ 1048576) (d : Nat) : ∀ (i : Nat), i + d = l.length →
    Ev (fun k => impl_MapOk.l0 k l l (l.length : Int) (i : Int)) (allF (mapC l) d i && decide ((l.length : Int) ≤ 60)) := by
  induction d with
  | zero =>
    intro i hi
    refine ev_now fun k => ?_
    show impl_MapOk.l0 (k + 1) _ _ _ _ = _
    rw [impl_MapOk.l0, if_neg (by omega)]
    simp [allF]
  | succ d ih =>
    intro i hi
    have e0 : rd_T107 l (i : Int) = l.getD i z107 := rfl
    by_cases h1 : 1 ≤ ((l.getD i z107).f0.size : Int) ∧ ((l.getD i z107).f0.size : Int) ≤ 10
    · by_cases hv : ((l.getD i z107).f1.size : Int) ≤ 40
      · by_cases h2 : i = 0
        · have hC : mapC l i = true := by simp only [mapC, decide_eq_true h1, decide_eq_true hv, decide_eq_true h2, Bool.true_or, Bool.and_true]
          simp only [allF, hC, Bool.true_and]
          refine Ev.step (fun k => ?_) (ih (i + 1) (by omega))
          show impl_MapOk.l0 (k + 1) _ _ _ _ = impl_MapOk.l0 k _ _ _ _
          rw [impl_MapOk.l0, if_pos (by omega), if_pos (by omega), if_pos (by omega), e0, impl_keyOk.is, decide_eq_true h1]
          simp only [Option.bind_some, if_true]
          rw [if_neg (by omega), if_neg (by omega), w64 (by omega) (by omega)]
          rfl
        · have e2 : Hd (wrap64 ((i : Int) - 1) = ((i - 1 : Nat) : Int)) := Hd.mk <| by rw [w64 (by omega) (by omega)]; omega
          have e1 : rd_T107 l ((i - 1 : Nat) : Int) = l.getD (i - 1) z107 := rfl
          by_cases h3 : Op.bytesLess (l.getD (i - 1) z107).f0.toList (l.getD i z107).f0.toList = true
          · have hC : mapC l i = true := by simp only [mapC, decide_eq_true h1, decide_eq_true hv, h3, Bool.or_true, Bool.and_true]
            simp only [allF, hC, Bool.true_and]
            refine Ev.step (fun k => ?_) (ih (i + 1) (by omega))
            show impl_MapOk.l0 (k + 1) _ _ _ _ = impl_MapOk.l0 k _ _ _ _
            rw [impl_MapOk.l0, if_pos (by omega), if_pos (by omega), if_pos (by omega), e0, impl_keyOk.is, decide_eq_true h1]
            simp only [Option.bind_some, if_true]
            rw [if_neg (by omega), if_pos (by omega), e2.out, if_pos (by omega), if_pos (by omega), e1, if_pos h3, w64 (x := (i : Int) + 1) (by omega) (by omega)]
            rfl
          · have hC : mapC l i = false := by simp only [mapC, decide_eq_true h1, decide_eq_true hv, Bool.eq_false_iff.2 h3, decide_eq_false h2, Bool.or_false, Bool.and_false]
            simp only [allF, hC, Bool.false_and]
            refine ev_now fun k => ?_
            show impl_MapOk.l0 (k + 1) _ _ _ _ = _
            rw [impl_MapOk.l0, if_pos (by omega), if_pos (by omega), if_pos (by omega), e0, impl_keyOk.is, decide_eq_true h1]
            simp only [Option.bind_some, if_true]
            rw [if_neg (by omega), if_pos (by omega), e2.out, if_pos (by omega), if_pos (by omega), e1, if_neg h3]
      · have hC : mapC l i = false := by simp only [mapC, decide_eq_false hv, Bool.false_and, Bool.and_false]
        simp only [allF, hC, Bool.false_and]
        refine ev_now fun k => ?_
        show impl_MapOk.l0 (k + 1) _ _ _ _ = _
        rw [impl_MapOk.l0, if_pos (by omega), if_pos (by omega), if_pos (by omega), e0, impl_keyOk.is, decide_eq_true h1]
        simp only [Option.bind_some, if_true]
        rw [if_pos (by omega)]
    · have hC : mapC l i = false := by simp only [mapC, decide_eq_false h1, Bool.false_and]
      simp only [allF, hC, Bool.false_and]
      refine ev_now fun k => ?_
      show impl_MapOk.l0 (k + 1) _ _ _ _ = _
      rw [impl_MapOk.l0, if_pos (by omega), if_pos (by omega), if_pos (by omega), e0, impl_keyOk.is, decide_eq_false h1]
      simp
theorem impl_MapOk.ev (l : List S107) (hs : l.length ≤ 1048576) : Ev (fun k => impl_MapOk.f k l) (mapCOf l) := by
  unfold mapCOf
  obtain ⟨K, h⟩ := impl_MapOk.ev0 l hs l.length 0 (by omega)
  rw [Bool.and_comm]
  exact ⟨K, fun k hk => h k hk⟩
theorem loop_all {F : Nat → Nat → Option Bool} {C : Nat → Bool} {n : Nat} {fin : Bool} (step : ∀ k i, i < n → F (k + 1) i = if C i = true then F k (i + 1) else some false)
    (stop : Ev (fun k => F k n) fin) (d : Nat) : ∀ i, i + d = n → Ev (fun k => F k i) (allF C d i && fin) := by
  induction d with
  | zero =>
    intro i hi
    obtain rfl : i = n := by omega
    rw [allF, Bool.true_and]
    exact stop
  | succ d ih =>
    intro i hi
    by_cases hC : C i = true
    · rw [allF, hC, Bool.true_and]
      exact Ev.step (fun k => by rw [step k i (by omega), if_pos hC]) (ih (i + 1) (by omega))
    · rw [allF, Bool.eq_false_iff.2 hC, Bool.false_and, Bool.false_and]
      exact ev_now fun k => by rw [step k i (by omega), if_neg hC]
theorem impl_BatchOk.step (a : Int) (l : List S96) (hs : l.length ≤ 1048576) (k i : Nat) (hlt : i < l.length) :
    impl_BatchOk.l0 (k + 1) l (l.length : Int) (i : Int) a l = if chC l i = true then impl_BatchOk.l0 k l (l.length : Int) ((i + 1 : Nat) : Int) a l else some false := by
  have e0 : rd_T96 l (i : Int) = l.getD i z96 := rfl
  have e3 : Hd (wrap64 ((i : Int) + 1) = ((i + 1 : Nat) : Int)) := Hd.mk <| by rw [w64 (by omega) (by omega)]; rfl
  have e2 : Hd (0 < i → wrap64 ((i : Int) - 1) = ((i - 1 : Nat) : Int)) := Hd.mk fun h => by rw [w64 (by omega) (by omega)]; omega
  rw [impl_BatchOk.l0, if_pos (by omega), if_pos (by omega), if_pos (by omega), e0, impl_keyOk.is, Option.bind_some, e3.out]
  by_cases h2 : i = 0
  · simp only [if_neg (show ¬ ((i : Int) > 0) by omega)]
    unfold chC
    generalize l.getD i z96 = x
    generalize impl_BatchOk.l0 k l (l.length : Int) ((i + 1 : Nat) : Int) a l = R
    by_cases h1 : 1 ≤ (x.f0.size : Int) ∧ (x.f0.size : Int) ≤ 10 <;> by_cases hv : (x.f1.size : Int) > 40 <;> by_cases hg : x.f2 = true <;> by_cases he : x.f1.toList = [] <;> simp [h1, hv, hg, he, h2]
  · have e1 : rd_T96 l ((i - 1 : Nat) : Int) = l.getD (i - 1) z96 := rfl
    simp only [if_pos (show ((i : Int) > 0) by omega), e2.out (by omega), if_pos (show (0 : Int) ≤ ((i - 1 : Nat) : Int) by omega), if_pos (show ((i - 1 : Nat) : Int) < (l.length : Int) by omega), e1]
    unfold chC
    generalize l.getD i z96 = x
    generalize l.getD (i - 1) z96 = y
    generalize impl_BatchOk.l0 k l (l.length : Int) ((i + 1 : Nat) : Int) a l = R
    by_cases h1 : 1 ≤ (x.f0.size : Int) ∧ (x.f0.size : Int) ≤ 10 <;> by_cases hv : (x.f1.size : Int) > 40 <;> by_cases hg : x.f2 = true <;> by_cases he : x.f1.toList = [] <;> by_cases hb : Op.bytesLess y.f0.toList x.f0.toList = true <;> simp [h1, hv, hg, he, hb, h2]
theorem impl_BatchOk.ev (a : Int) (l : List S96) (hs : l.length ≤ 1048576) : Ev (fun k => impl_BatchOk.f k a l) (batchOf a l) := by
  have stop : Ev (fun k => impl_BatchOk.l0 k l (l.length : Int) ((l.length : Nat) : Int) a l) (decide (0 ≤ a ∧ a ≤ 100000) && decide (¬ (l.length : Int) > 60)) := ev_now fun k => by
    show impl_BatchOk.l0 (k + 1) _ _ _ _ _ = _
    rw [impl_BatchOk.l0, if_neg (by omega), impl_within.is, Option.bind_some]
    by_cases h1 : 0 ≤ a ∧ a ≤ 100000
    · rw [decide_eq_true h1, if_pos rfl, Bool.true_and]
      congr 1
      rw [decide_eq_decide]
      omega
    · rw [decide_eq_false h1, if_neg (by simp), Bool.false_and]
  obtain ⟨K, h⟩ := loop_all (F := fun k i => impl_BatchOk.l0 k l (l.length : Int) (i : Int) a l) (fun k i hi => impl_BatchOk.step a l hs k i hi) stop l.length 0 (by omega)
  dsimp only at h
  unfold batchOf
  rw [Bool.and_comm]
  exact ⟨K, fun k hk => h k hk⟩
theorem impl_MapBatch.ev0 (l : List S107) (hs : l.length ≤ 1048576) (v : Int) (d : Nat) : ∀ (i : Nat), i + d = l.length →
    Ev (fun k => impl_MapBatch.l0 k l l (l.length : Int) (i : Int) v ((l.take i).map chOf)) (mapBatchOf l v) := by
  induction d with
  | zero =>
    intro i hi
    obtain ⟨K0, h0⟩ := impl_MapOk.ev l hs
    obtain ⟨K1, h1⟩ := impl_BatchOk.ev v (l.map chOf) (by simpa using hs)
    dsimp only at h0 h1
    refine ⟨K0 + K1 + 1, fun k hk => ?_⟩
    obtain ⟨k, rfl⟩ : ∃ m, k = m + 1 := ⟨k - 1, by omega⟩
    show impl_MapBatch.l0 (k + 1) _ _ _ _ _ _ = _
    rw [impl_MapBatch.l0, if_neg (by omega), List.take_of_length_le (by omega), h0 k (by omega), Option.bind_some, h1 k (by omega), Option.bind_some, batchOf_map]
    unfold mapBatchOf
    by_cases hm : mapCOf l = true
    · by_cases hv : 0 ≤ v ∧ v ≤ 100000
      · rw [if_pos hm, if_pos (show (decide (0 ≤ v ∧ v ≤ 100000) && mapCOf l) = true by rw [hm, decide_eq_true hv]; rfl), if_pos (show mapCOf l = true ∧ 0 ≤ v ∧ v ≤ 100000 from ⟨hm, hv⟩)]
      · rw [if_pos hm, if_neg (show ¬ (decide (0 ≤ v ∧ v ≤ 100000) && mapCOf l) = true by rw [decide_eq_false hv]; simp), if_neg (show ¬ (mapCOf l = true ∧ 0 ≤ v ∧ v ≤ 100000) from fun h => hv h.2)]
    · rw [if_neg hm, if_neg (fun h => hm h.1)]
  | succ d ih =>
    intro i hi
    have hlt : i < l.length := by omega
    have ew : Hd (wrap64 ((i : Int) + 1) = ((i + 1 : Nat) : Int)) := Hd.mk <| by rw [w64 (by omega) (by omega)]; rfl
    refine Ev.step (fun k => ?_) (ih (i + 1) (by omega))
    show impl_MapBatch.l0 (k + 1) _ _ _ _ _ _ = impl_MapBatch.l0 k _ _ _ _ _ _
    rw [impl_MapBatch.l0, if_pos (by omega), if_pos (by omega), if_pos (by omega), if_pos (by simp; omega), rdI_Pair l i hlt, ew.out, List.take_succ_eq_append_getElem hlt, List.map_append]
    rfl
theorem impl_MapBatch.ev (l : List S107) (hs : l.length ≤ 1048576) (v : Int) : Ev (fun k => impl_MapBatch.f k l v) (mapBatchOf l v) := by
  obtain ⟨K, h⟩ := impl_MapBatch.ev0 l hs v l.length 0 (by omega)
  exact ⟨K, fun k hk => h k hk⟩
theorem laws_szPair.is (a0 : ByteArray) (a1 : ByteArray) (n : Int) (h0 : 0 ≤ n) (h1 : n ≤ 1048576) (b0 : a0.size ≤ 9223372036854775807) (b1 : a1.size ≤ 9223372036854775807) : ∃ r, laws_szPair.f a0 a1 n = some r ∧ (0 ≤ r → a0.size ≤ 1048576 ∧ a1.size ≤ 1048576 ∧ r ≤ n) := by
  unfold laws_szPair.f
  rw [w64 (x := n - (a0.size : Int)) (by omega) (by omega)]
  by_cases c0 : n - (a0.size : Int) < 0
  · rw [if_pos c0]; exact ⟨_, rfl, fun h => by omega⟩
  rw [if_neg c0]
  rw [w64 (x := n - (a0.size : Int) - (a1.size : Int)) (by omega) (by omega)]
  by_cases c1 : n - (a0.size : Int) - (a1.size : Int) < 0
  · rw [if_pos c1]; exact ⟨_, rfl, fun h => by omega⟩
  rw [if_neg c1]
  exact ⟨_, rfl, fun h => by omega⟩
theorem rdL_Pair (l : List S104) (n : Nat) (h : n < l.length) : rd_T104 l (n : Int) = l[n] := by
  show l.getD n z104 = _
  simp [List.getD_eq_getElem?_getD, List.getElem?_eq_getElem h]
theorem laws_szPairS.ev0 (l : List S104) (hl : l.length ≤ 1048576) (hw : ∀ x ∈ l, x.f0.size ≤ 9223372036854775807 ∧ x.f1.size ≤ 9223372036854775807) (d : Nat) : ∀ (i : Nat) (n : Int), i + d = l.length → 0 ≤ n → n ≤ 1048576 →
    ∃ r, Ev (fun k => laws_szPairS.l0 k l n (i : Int)) r ∧ (0 ≤ r → (∀ x ∈ l.drop i, x.f0.size ≤ 1048576 ∧ x.f1.size ≤ 1048576) ∧ r ≤ n) := by
  induction d with
  | zero =>
    intro i n hi h0 h1
    refine ⟨n, ⟨1, fun k hk => ?_⟩, fun _ => ⟨fun x hx => (by rw [List.drop_eq_nil_of_le (by omega)] at hx; cases hx), by omega⟩⟩
    obtain ⟨k, rfl⟩ : ∃ m, k = m + 1 := ⟨k - 1, by omega⟩
    show laws_szPairS.l0 (k + 1) _ _ _ = _
    rw [laws_szPairS.l0, if_neg (by omega)]
  | succ d ih =>
    intro i n hi h0 h1
    have hlt : i < l.length := by omega
    have hm := hw l[i] (List.getElem_mem hlt)
    obtain ⟨r, hr, hf⟩ := laws_szPair.is l[i].f0 l[i].f1 n h0 h1 (by omega) (by omega)
    by_cases hneg : r < 0
    · refine ⟨-1, ⟨1, fun k hk => ?_⟩, fun h => by omega⟩
      obtain ⟨k, rfl⟩ : ∃ m, k = m + 1 := ⟨k - 1, by omega⟩
      show laws_szPairS.l0 (k + 1) _ _ _ = _
      rw [laws_szPairS.l0, if_pos (by omega), if_pos (by omega), rdL_Pair l i hlt, hr, Option.bind_some, if_pos hneg]
    · have hf' := hf (by omega)
      obtain ⟨r', h', hf2⟩ := ih (i + 1) r (by omega) (by omega) (by omega)
      refine ⟨r', Ev.step (fun k => ?_) h', fun hr' => ⟨fun x hx => ?_, by have := (hf2 hr').2; omega⟩⟩
      · show laws_szPairS.l0 (k + 1) _ _ _ = laws_szPairS.l0 k _ _ _
        rw [laws_szPairS.l0, if_pos (by omega), if_pos (by omega), rdL_Pair l i hlt, hr, Option.bind_some, if_neg hneg, w64 (by omega) (by omega)]
        rfl
      · rw [List.drop_eq_getElem_cons hlt] at hx
        rcases List.mem_cons.1 hx with rfl | hx
        · omega
        · exact (hf2 hr').1 x hx
theorem laws_szPairS.ev (l : List S104) (hl : l.length ≤ 9223372036854775807) (hw : ∀ x ∈ l, x.f0.size ≤ 9223372036854775807 ∧ x.f1.size ≤ 9223372036854775807) (n : Int) (h0 : 0 ≤ n) (h1 : n ≤ 1048576) :
    ∃ r, Ev (fun k => laws_szPairS.f k l n) r ∧ (0 ≤ r → l.length ≤ 1048576 ∧ (∀ x ∈ l, x.f0.size ≤ 1048576 ∧ x.f1.size ≤ 1048576) ∧ r ≤ n) := by
  have e : Hd (wrap64 (n - (l.length : Int)) = n - (l.length : Int)) := Hd.mk <| w64 (by omega) (by omega)
  by_cases h : n - (l.length : Int) < 0
  · refine ⟨-1, ⟨0, fun k hk => ?_⟩, fun h => by omega⟩
    show laws_szPairS.f k _ _ = _
    unfold laws_szPairS.f
    rw [e.out, if_pos h]
  · obtain ⟨r, ⟨K, hK⟩, hf⟩ := laws_szPairS.ev0 l (by omega) hw l.length 0 (n - (l.length : Int)) (by omega) (by omega) (by omega)
    refine ⟨r, ⟨K, fun k hk => ?_⟩, fun h => ⟨by omega, (hf h).1, by have := (hf h).2; omega⟩⟩
    show laws_szPairS.f k _ _ = _
    unfold laws_szPairS.f
    rw [e.out, if_neg h]
    exact hK k hk
def cvPair (x : S104) : S107 := ⟨x.f0, x.f1⟩
theorem laws_toPairS.ev0 (l : List S104) (hs : l.length ≤ 1048576) (d : Nat) : ∀ (i : Nat) (x : List S107), i + d = l.length → x.length = l.length → x.take i = (l.map cvPair).take i →
    Ev (fun k => laws_toPairS.l0 k l x (i : Int)) (l.map cvPair) := by
  have hml : (l.map cvPair).length = l.length := by simp
  induction d with
  | zero =>
    intro i x hi hx he
    refine ⟨1, fun k hk => ?_⟩
    obtain ⟨k, rfl⟩ : ∃ m, k = m + 1 := ⟨k - 1, by omega⟩
    show laws_toPairS.l0 (k + 1) _ _ _ = _
    rw [laws_toPairS.l0, if_neg (by omega)]
    rw [List.take_of_length_le (by omega), List.take_of_length_le (by omega)] at he
    rw [he]
  | succ d ih =>
    intro i x hi hx he
    have hlt : i < l.length := by omega
    refine Ev.step (fun k => ?_) (ih (i + 1) (x.set i (cvPair l[i])) (by omega) (by simp; omega) ?_)
    · show laws_toPairS.l0 (k + 1) _ _ _ = laws_toPairS.l0 k _ _ _
      rw [laws_toPairS.l0, if_pos (by omega), if_pos (by omega), rdL_Pair l i hlt]
      unfold laws_toPair.f
      rw [Option.bind_some, if_pos (by omega), w64 (by omega) (by omega)]
      rfl
    · rw [List.take_succ_eq_append_getElem (by simp; omega), List.take_succ_eq_append_getElem (by simp; omega), List.take_set_of_le (by omega), he]
      simp
theorem laws_toPairS.ev (l : List S104) (hs : l.length ≤ 1048576) : Ev (fun k => laws_toPairS.f k l) (l.map cvPair) := by
  obtain ⟨K, h⟩ := laws_toPairS.ev0 l hs l.length 0 (List.replicate l.length z107) (by omega) (by simp) (by simp)
  dsimp only at h
  refine ⟨K, fun k hk => ?_⟩
  show laws_toPairS.f k _ = _
  unfold laws_toPairS.f
  rw [if_pos (by omega), if_pos (by omega)]
  exact h k hk
theorem laws_eqPair.refl (a0 : ByteArray) (a1 : ByteArray) : laws_eqPair.f a0 a1 a0 a1 = some true := by
  unfold laws_eqPair.f
  simp
theorem laws_eqPairS.ev0 (l : List S107) (hs : l.length ≤ 1048576) (d : Nat) : ∀ (i : Nat), i + d = l.length → Ev (fun k => laws_eqPairS.l0 k l l (i : Int)) true := by
  induction d with
  | zero =>
    intro i hi
    refine ⟨1, fun k hk => ?_⟩
    obtain ⟨k, rfl⟩ : ∃ m, k = m + 1 := ⟨k - 1, by omega⟩
    show laws_eqPairS.l0 (k + 1) _ _ _ = _
    rw [laws_eqPairS.l0, if_neg (by omega)]
  | succ d ih =>
    intro i hi
    refine Ev.step (fun k => ?_) (ih (i + 1) (by omega))
    show laws_eqPairS.l0 (k + 1) _ _ _ = laws_eqPairS.l0 k _ _ _
    rw [laws_eqPairS.l0, if_pos (by omega), if_pos (by omega), if_pos (by omega), laws_eqPair.refl, Option.bind_some, if_pos rfl, w64 (by omega) (by omega)]
    rfl
theorem laws_eqPairS.ev (l : List S107) (hs : l.length ≤ 1048576) : Ev (fun k => laws_eqPairS.f k l l) true := by
  obtain ⟨K, h⟩ := laws_eqPairS.ev0 l hs l.length 0 (by omega)
  refine ⟨K, fun k hk => ?_⟩
  show laws_eqPairS.f k _ _ = _
  unfold laws_eqPairS.f
  rw [if_pos rfl]
  exact h k hk
theorem laws_eqChange.refl (a0 : ByteArray) (a1 : ByteArray) (a2 : Bool) : laws_eqChange.f a0 a1 a2 a0 a1 a2 = some true := by
  unfold laws_eqChange.f
  simp
theorem laws_eqChangeS.ev0 (l : List S96) (hs : l.length ≤ 1048576) (d : Nat) : ∀ (i : Nat), i + d = l.length → Ev (fun k => laws_eqChangeS.l0 k l l (i : Int)) true := by
  induction d with
  | zero =>
    intro i hi
    refine ⟨1, fun k hk => ?_⟩
    obtain ⟨k, rfl⟩ : ∃ m, k = m + 1 := ⟨k - 1, by omega⟩
    show laws_eqChangeS.l0 (k + 1) _ _ _ = _
    rw [laws_eqChangeS.l0, if_neg (by omega)]
  | succ d ih =>
    intro i hi
    refine Ev.step (fun k => ?_) (ih (i + 1) (by omega))
    show laws_eqChangeS.l0 (k + 1) _ _ _ = laws_eqChangeS.l0 k _ _ _
    rw [laws_eqChangeS.l0, if_pos (by omega), if_pos (by omega), if_pos (by omega), laws_eqChange.refl, Option.bind_some, if_pos rfl, w64 (by omega) (by omega)]
    rfl
theorem laws_eqChangeS.ev (l : List S96) (hs : l.length ≤ 1048576) : Ev (fun k => laws_eqChangeS.f k l l) true := by
  obtain ⟨K, h⟩ := laws_eqChangeS.ev0 l hs l.length 0 (by omega)
  refine ⟨K, fun k hk => ?_⟩
  show laws_eqChangeS.f k _ _ = _
  unfold laws_eqChangeS.f
  rw [if_pos rfl]
  exact h k hk
/-- The decimal figures of k ahead of acc, with the letter m ahead. -/
def mtL : Nat → Nat → List UInt8 → List UInt8
  | 0, _, acc => 109 :: acc
  | f + 1, k, acc => if 0 < k then mtL f (k / 10) (UInt8.ofNat (48 + k % 10) :: acc) else 109 :: acc
def mtOf (k : Int) : ByteArray := if k ≤ 0 then mk [109, 48] else mk (mtL 20 k.toNat [])
theorem laws_markText.ev0 (f : Nat) : ∀ (n : Nat) (acc : List UInt8), n < 10 ^ f → n ≤ 9223372036854775807 → f + acc.length ≤ 100 → Ev (fun k => laws_markText.l0 k (n : Int) (mk acc)) (mk (mtL f n acc)) := by
  induction f with
  | zero =>
    intro n acc hn hn2 hl
    have hsz := mk_size acc
    refine ⟨1, fun k hk => ?_⟩
    obtain ⟨k, rfl⟩ : ∃ m, k = m + 1 := ⟨k - 1, by omega⟩
    show laws_markText.l0 (k + 1) _ _ = _
    rw [laws_markText.l0, if_neg (by simp at hn; omega), if_pos (by omega), show (⟨#[109]⟩ : ByteArray) = mk [109] from rfl, mk_append]
    rfl
  | succ f ih =>
    intro n acc hn hn2 hl
    have hsz := mk_size acc
    by_cases h : 0 < n
    · have e1 : Hd (Int.tmod (n : Int) 10 = ((n % 10 : Nat) : Int)) := Hd.mk <| tmod_nat n 10
      have e2 : Hd (Int.tdiv (n : Int) 10 = ((n / 10 : Nat) : Int)) := Hd.mk <| tdiv_nat n 10
      have e3 : Hd (([(wrap64 (48 + ((n % 10 : Nat) : Int))) % 256] : List Int) = nm [UInt8.ofNat (48 + n % 10)]) := Hd.mk <| by
        rw [nm_u8 _ (by omega), w64 (by omega) (by omega)]
        congr 1
        omega
      have hd : n / 10 < 10 ^ f := by
        rw [Nat.pow_succ] at hn
        omega
      rw [mtL, if_pos h]
      refine Ev.step (fun k => ?_) (ih (n / 10) (UInt8.ofNat (48 + n % 10) :: acc) hd (by omega) (by simp; omega))
      show laws_markText.l0 (k + 1) _ _ = laws_markText.l0 k _ _
      rw [laws_markText.l0, if_pos (by omega), e1.out, e2.out, e3.out, Option.bind_some, strOf_nm, if_pos (by rw [mk_size]; simp; omega), mk_append]
      congr 1
      exact w64 (by omega) (by omega)
    · rw [mtL, if_neg h]
      refine ⟨1, fun k hk => ?_⟩
      obtain ⟨k, rfl⟩ : ∃ m, k = m + 1 := ⟨k - 1, by omega⟩
      show laws_markText.l0 (k + 1) _ _ = _
      rw [laws_markText.l0, if_neg (by omega), if_pos (by omega), show (⟨#[109]⟩ : ByteArray) = mk [109] from rfl, mk_append]
      rfl
theorem laws_markText.ev (n : Int) (h : n ≤ 9223372036854775807) : Ev (fun k => laws_markText.f k n) (mtOf n) := by
  unfold mtOf
  by_cases h0 : n ≤ 0
  · rw [if_pos h0]
    refine ⟨0, fun k _ => ?_⟩
    show laws_markText.f k _ = _
    unfold laws_markText.f
    rw [if_pos h0]
    rfl
  · rw [if_neg h0]
    obtain ⟨m, rfl⟩ := Int.eq_ofNat_of_zero_le (show 0 ≤ n by omega)
    obtain ⟨K, hK⟩ := laws_markText.ev0 20 m [] (by omega) (by omega) (by simp)
    refine ⟨K, fun k hk => ?_⟩
    show laws_markText.f k _ = _
    unfold laws_markText.f
    rw [if_neg h0]
    exact hK k hk
/-- What a marked list is. -/
def msChange (k : Nat) : List S96 → List S96
  | [] => []
  | _ :: l => ⟨mtOf ((k : Nat) : Int), mtOf ((k + 1 : Nat) : Int), (Int.tmod ((k + 2 : Nat) : Int) 3 == 0)⟩ :: msChange (k + 3) l
theorem msChange_length : ∀ (l : List S96) (k : Nat), (msChange k l).length = l.length
  | [], _ => rfl
  | _ :: l, k => by simp [msChange, msChange_length l (k + 3)]
theorem laws_markChangeS.ev0 (d : Nat) : ∀ (i n : Nat) (x : List S96), i + d = x.length → n + 3 * d ≤ 4611686018427387904 → x.length ≤ 1048576 →
    Ev (fun k => laws_markChangeS.l0 k x (n : Int) (i : Int)) (((n + 3 * d : Nat) : Int), x.take i ++ msChange n (x.drop i)) := by
  induction d with
  | zero =>
    intro i n x hi hn hx
    refine ⟨1, fun k hk => ?_⟩
    obtain ⟨k, rfl⟩ : ∃ m, k = m + 1 := ⟨k - 1, by omega⟩
    show laws_markChangeS.l0 (k + 1) _ _ _ = _
    rw [laws_markChangeS.l0, if_neg (by omega), List.drop_eq_nil_of_le (by omega), List.take_of_length_le (by omega)]
    simp [msChange]
  | succ d ih =>
    intro i n x hi hn hx
    have hlt : i < x.length := by omega
    obtain ⟨K0, h0⟩ := laws_markText.ev ((n : Nat) : Int) (by omega)
    obtain ⟨K1, h1⟩ := laws_markText.ev ((n + 1 : Nat) : Int) (by omega)
    obtain ⟨K9, h9⟩ := ih (i + 1) (n + 3) (x.set i ⟨mtOf ((n : Nat) : Int), mtOf ((n + 1 : Nat) : Int), (Int.tmod ((n + 2 : Nat) : Int) 3 == 0)⟩) (by simp; omega) (by omega) (by simp; omega)
    dsimp only at h0 h1 h9
    refine ⟨K0 + K1 + K9 + 1, fun k hk => ?_⟩
    obtain ⟨k, rfl⟩ : ∃ m, k = m + 1 := ⟨k - 1, by omega⟩
    show laws_markChangeS.l0 (k + 1) _ _ _ = _
    have h0' := h0 k (by omega)
    have h1' := h1 k (by omega)
    have h9' := h9 k (by omega)
    have e1 : Hd (wrap64 (((n : Nat) : Int) + 1) = ((n + 1 : Nat) : Int)) := Hd.mk <| by rw [w64 (by omega) (by omega)]; rfl
    have e2 : Hd (wrap64 (((n + 1 : Nat) : Int) + 1) = ((n + 2 : Nat) : Int)) := Hd.mk <| by rw [w64 (by omega) (by omega)]; rfl
    have e3 : Hd (wrap64 (((n + 2 : Nat) : Int) + 1) = ((n + 3 : Nat) : Int)) := Hd.mk <| by rw [w64 (by omega) (by omega)]; rfl
    have ei : Hd (wrap64 ((i : Int) + 1) = ((i + 1 : Nat) : Int)) := Hd.mk <| by rw [w64 (by omega) (by omega)]; rfl
    have hrd : ∀ a : S96, rd_T96 (x.set i a) (i : Int) = a := fun a => by
      rw [rdI_Change _ i (by simp; omega)]
      simp
    rw [laws_markChangeS.l0]
    simp only [if_pos (show (i : Int) < (x.length : Int) by omega), if_pos (show (0 : Int) ≤ (i : Int) by omega), Int.toNat_natCast, e1.out, e2.out, e3.out, ei.out, h0', h1', Option.bind_some, hrd, List.set_set]
    refine h9'.trans ?_
    congr 2
    · omega
    · rw [List.drop_eq_getElem_cons hlt, msChange, List.take_succ_eq_append_getElem (by simp; omega), List.drop_set_of_lt (by omega), List.take_set_of_le (by omega)]
      simp
theorem laws_markChangeS.ev (l : List S96) (hs : l.length ≤ 1048576) (n : Nat) (hn : n ≤ 1048576) : Ev (fun k => laws_markChangeS.f k l (n : Int)) (((n + 3 * l.length : Nat) : Int), msChange n l) := by
  obtain ⟨K, h⟩ := laws_markChangeS.ev0 l.length 0 n l (by omega) (by omega) hs
  dsimp only at h
  refine ⟨K, fun k hk => ?_⟩
  show laws_markChangeS.f k _ _ = _
  unfold laws_markChangeS.f
  have := h k hk
  simpa using this
theorem laws_heldChangeS.ev0 (l : List S96) (d : Nat) : ∀ (i n : Nat) (x : List S96), i + d = x.length → n + 3 * d ≤ 4611686018427387904 → x.length ≤ 1048576 → (∃ y : List S96, x.drop i = msChange n y) →
    Ev (fun k => laws_heldChangeS.l0 k x (n : Int) (i : Int)) ((n + 3 * d : Nat) : Int) := by
  induction d with
  | zero =>
    intro i n x hi hn hx hy
    refine ⟨1, fun k hk => ?_⟩
    obtain ⟨k, rfl⟩ : ∃ m, k = m + 1 := ⟨k - 1, by omega⟩
    show laws_heldChangeS.l0 (k + 1) _ _ _ = _
    rw [laws_heldChangeS.l0, if_neg (by omega)]
    rfl
  | succ d ih =>
    intro i n x hi hn hx hy
    obtain ⟨y, hy⟩ := hy
    have hlt : i < x.length := by omega
    rw [List.drop_eq_getElem_cons hlt] at hy
    cases y with
    | nil => exact absurd hy (List.cons_ne_nil _ _)
    | cons y0 y =>
      rw [msChange, List.cons_eq_cons] at hy
      obtain ⟨K0, h0⟩ := laws_markText.ev ((n : Nat) : Int) (by omega)
      obtain ⟨K1, h1⟩ := laws_markText.ev ((n + 1 : Nat) : Int) (by omega)
      obtain ⟨K9, h9⟩ := ih (i + 1) (n + 3) x (by omega) (by omega) hx ⟨y, hy.2⟩
      dsimp only at h0 h1 h9
      refine ⟨K0 + K1 + K9 + 1, fun k hk => ?_⟩
      obtain ⟨k, rfl⟩ : ∃ m, k = m + 1 := ⟨k - 1, by omega⟩
      show laws_heldChangeS.l0 (k + 1) _ _ _ = _
      have h0' := h0 k (by omega)
      have h1' := h1 k (by omega)
      have h9' := h9 k (by omega)
      have e1 : Hd (wrap64 (((n : Nat) : Int) + 1) = ((n + 1 : Nat) : Int)) := Hd.mk <| by rw [w64 (by omega) (by omega)]; rfl
      have e2 : Hd (wrap64 (((n + 1 : Nat) : Int) + 1) = ((n + 2 : Nat) : Int)) := Hd.mk <| by rw [w64 (by omega) (by omega)]; rfl
      have e3 : Hd (wrap64 (((n + 2 : Nat) : Int) + 1) = ((n + 3 : Nat) : Int)) := Hd.mk <| by rw [w64 (by omega) (by omega)]; rfl
      have ei : Hd (wrap64 ((i : Int) + 1) = ((i + 1 : Nat) : Int)) := Hd.mk <| by rw [w64 (by omega) (by omega)]; rfl
      have g0 : (rd_T96 x (i : Int)).f0 = mtOf ((n : Nat) : Int) := by rw [rdI_Change x i hlt, hy.1]
      have g1 : (rd_T96 x (i : Int)).f1 = mtOf ((n + 1 : Nat) : Int) := by rw [rdI_Change x i hlt, hy.1]
      have g2 : (rd_T96 x (i : Int)).f2 = (Int.tmod ((n + 2 : Nat) : Int) 3 == 0) := by rw [rdI_Change x i hlt, hy.1]
      rw [laws_heldChangeS.l0]
      simp only [if_pos (show (i : Int) < (x.length : Int) by omega), if_pos (show (0 : Int) ≤ (i : Int) by omega), e1.out, e2.out, e3.out, ei.out, h0', h1', Option.bind_some, g0, g1, g2, if_true, bne_self_eq_false, Bool.false_eq_true, if_false]
      refine h9'.trans ?_
      congr 1
      omega
theorem laws_heldChangeS.ev (l : List S96) (hs : l.length ≤ 1048576) (n : Nat) (hn : n ≤ 1048576) : Ev (fun k => laws_heldChangeS.f k (msChange n l) (n : Int)) ((n + 3 * l.length : Nat) : Int) := by
  have hl := msChange_length l n
  obtain ⟨K, h⟩ := laws_heldChangeS.ev0 l l.length 0 n (msChange n l) (by omega) (by omega) (by omega) ⟨l, rfl⟩
  exact ⟨K, fun k hk => h k hk⟩
/-- What a marked list is. -/
def msPair (k : Nat) : List S107 → List S107
  | [] => []
  | _ :: l => ⟨mtOf ((k : Nat) : Int), mtOf ((k + 1 : Nat) : Int)⟩ :: msPair (k + 2) l
theorem msPair_length : ∀ (l : List S107) (k : Nat), (msPair k l).length = l.length
  | [], _ => rfl
  | _ :: l, k => by simp [msPair, msPair_length l (k + 2)]
theorem laws_markPairS.ev0 (d : Nat) : ∀ (i n : Nat) (x : List S107), i + d = x.length → n + 2 * d ≤ 4611686018427387904 → x.length ≤ 1048576 →
    Ev (fun k => laws_markPairS.l0 k x (n : Int) (i : Int)) (((n + 2 * d : Nat) : Int), x.take i ++ msPair n (x.drop i)) := by
  induction d with
  | zero =>
    intro i n x hi hn hx
    refine ⟨1, fun k hk => ?_⟩
    obtain ⟨k, rfl⟩ : ∃ m, k = m + 1 := ⟨k - 1, by omega⟩
    show laws_markPairS.l0 (k + 1) _ _ _ = _
    rw [laws_markPairS.l0, if_neg (by omega), List.drop_eq_nil_of_le (by omega), List.take_of_length_le (by omega)]
    simp [msPair]
  | succ d ih =>
    intro i n x hi hn hx
    have hlt : i < x.length := by omega
    obtain ⟨K0, h0⟩ := laws_markText.ev ((n : Nat) : Int) (by omega)
    obtain ⟨K1, h1⟩ := laws_markText.ev ((n + 1 : Nat) : Int) (by omega)
    obtain ⟨K9, h9⟩ := ih (i + 1) (n + 2) (x.set i ⟨mtOf ((n : Nat) : Int), mtOf ((n + 1 : Nat) : Int)⟩) (by simp; omega) (by omega) (by simp; omega)
    dsimp only at h0 h1 h9
    refine ⟨K0 + K1 + K9 + 1, fun k hk => ?_⟩
    obtain ⟨k, rfl⟩ : ∃ m, k = m + 1 := ⟨k - 1, by omega⟩
    show laws_markPairS.l0 (k + 1) _ _ _ = _
    have h0' := h0 k (by omega)
    have h1' := h1 k (by omega)
    have h9' := h9 k (by omega)
    have e1 : Hd (wrap64 (((n : Nat) : Int) + 1) = ((n + 1 : Nat) : Int)) := Hd.mk <| by rw [w64 (by omega) (by omega)]; rfl
    have e2 : Hd (wrap64 (((n + 1 : Nat) : Int) + 1) = ((n + 2 : Nat) : Int)) := Hd.mk <| by rw [w64 (by omega) (by omega)]; rfl
    have ei : Hd (wrap64 ((i : Int) + 1) = ((i + 1 : Nat) : Int)) := Hd.mk <| by rw [w64 (by omega) (by omega)]; rfl
    have hrd : ∀ a : S107, rd_T107 (x.set i a) (i : Int) = a := fun a => by
      rw [rdI_Pair _ i (by simp; omega)]
      simp
    rw [laws_markPairS.l0]
    simp only [if_pos (show (i : Int) < (x.length : Int) by omega), if_pos (show (0 : Int) ≤ (i : Int) by omega), Int.toNat_natCast, e1.out, e2.out, ei.out, h0', h1', Option.bind_some, hrd, List.set_set]
    refine h9'.trans ?_
    congr 2
    · omega
    · rw [List.drop_eq_getElem_cons hlt, msPair, List.take_succ_eq_append_getElem (by simp; omega), List.drop_set_of_lt (by omega), List.take_set_of_le (by omega)]
      simp
theorem laws_markPairS.ev (l : List S107) (hs : l.length ≤ 1048576) (n : Nat) (hn : n ≤ 1048576) : Ev (fun k => laws_markPairS.f k l (n : Int)) (((n + 2 * l.length : Nat) : Int), msPair n l) := by
  obtain ⟨K, h⟩ := laws_markPairS.ev0 l.length 0 n l (by omega) (by omega) hs
  dsimp only at h
  refine ⟨K, fun k hk => ?_⟩
  show laws_markPairS.f k _ _ = _
  unfold laws_markPairS.f
  have := h k hk
  simpa using this
theorem FnExactMapBatch : ∀ (l0 : List S104) (a1 : Int), (l0.length ≤ maxLen ∧ ∀ y ∈ l0, (y.f0.size ≤ maxLen) ∧ (y.f1.size ≤ maxLen)) → ((Lit.int .i64 a1).wf = true) → ∃ k, laws_FnExactMapBatch.f k l0 a1 = some true := by
  intro l v hw hv
  unfold maxLen at hw
  obtain ⟨r, ⟨K0, h0⟩, hf⟩ := laws_szPairS.ev l hw.1 hw.2 1048576 (by omega) (by omega)
  dsimp only at h0
  by_cases hr : r < 0
  · refine ⟨K0, ?_⟩
    unfold laws_FnExactMapBatch.f
    rw [h0 _ (by omega), Option.bind_some, if_pos hr]
  obtain ⟨hl, hsz, _⟩ := hf (by omega)
  have hml : (l.map cvPair).length ≤ 1048576 := by simpa using hl
  obtain ⟨K1, h1⟩ := spec_MapBatch.ev (l.map cvPair) hml v
  obtain ⟨K2, h2⟩ := impl_MapBatch.ev (l.map cvPair) hml v
  obtain ⟨K3, h3⟩ := laws_toPairS.ev l hl
  obtain ⟨K4, h4⟩ := laws_eqPairS.ev (l.map cvPair) hml
  obtain ⟨K5, h5⟩ := laws_markPairS.ev (l.map cvPair) hml 1 (by omega)
  have hbl : (mapBatchOf (l.map cvPair) v).2.1.length ≤ 1048576 := by
    unfold mapBatchOf
    by_cases hm : mapCOf (l.map cvPair) = true ∧ 0 ≤ v ∧ v ≤ 100000
    · rw [if_pos hm]; simpa using hl
    · rw [if_neg hm]; simp
  obtain ⟨K6, h6⟩ := laws_eqChangeS.ev _ hbl
  obtain ⟨K7, h7⟩ := laws_markChangeS.ev _ hbl 1 (by omega)
  obtain ⟨K8, h8⟩ := laws_heldChangeS.ev _ hbl 1 (by omega)
  dsimp only at h1 h2 h3 h4 h5 h6 h7 h8
  have hb : ∀ k, K6 ≤ k → laws_eqBatch.f k (mapBatchOf (l.map cvPair) v).1 (mapBatchOf (l.map cvPair) v).2.1 (mapBatchOf (l.map cvPair) v).1 (mapBatchOf (l.map cvPair) v).2.1 = some true := fun k hk => by
    unfold laws_eqBatch.f
    rw [if_pos rfl, h6 k hk]
    rfl
  have hmk : ∀ k, K7 ≤ k → laws_markBatch.f k (mapBatchOf (l.map cvPair) v).1 (mapBatchOf (l.map cvPair) v).2.1 1 = some (((1 + 3 * (mapBatchOf (l.map cvPair) v).2.1.length : Nat) : Int), msChange 1 (mapBatchOf (l.map cvPair) v).2.1) := fun k hk => by
    unfold laws_markBatch.f
    rw [show (1 : Int) = ((1 : Nat) : Int) from rfl, h7 k hk]
    rfl
  have hhd : ∀ k, K8 ≤ k → laws_heldBatch.f k (mapBatchOf (l.map cvPair) v).1 (msChange 1 (mapBatchOf (l.map cvPair) v).2.1) 1 = some ((1 + 3 * (mapBatchOf (l.map cvPair) v).2.1.length : Nat) : Int) := fun k hk => by
    unfold laws_heldBatch.f
    rw [show (1 : Int) = ((1 : Nat) : Int) from rfl, h8 k hk, Option.bind_some, if_neg (by omega)]
  generalize hB : mapBatchOf (l.map cvPair) v = B at *
  obtain ⟨b0, b1, b2⟩ := B
  dsimp only at *
  refine ⟨K0 + K1 + K2 + K3 + K4 + K5 + K6 + K7 + K8 + 3, ?_⟩
  generalize hk : K0 + K1 + K2 + K3 + K4 + K5 + K6 + K7 + K8 = k
  unfold laws_FnExactMapBatch.f
  rw [h0 _ (by omega), Option.bind_some, if_neg hr, h3 _ (by omega)]
  simp only [Option.bind_some]
  rw [h1 _ (by omega)]
  simp only [Option.bind_some]
  rw [h2 _ (by omega)]
  simp only [Option.bind_some]
  rw [hb _ (by omega)]
  simp only [Option.bind_some, if_true, bne_self_eq_false]
  rw [laws_FnExactMapBatch.j0, if_neg (by simp), h3 _ (by omega)]
  simp only [Option.bind_some]
  rw [h4 _ (by omega)]
  simp only [Option.bind_some, if_true]
  rw [show (1 : Int) = ((1 : Nat) : Int) from rfl, h5 _ (by omega)]
  simp only [Option.bind_some]
  rw [if_neg (by omega), hb _ (by omega)]
  simp only [Option.bind_some, if_true, bne_self_eq_false]
  rw [laws_FnExactMapBatch.j1, if_neg (by simp), hmk _ (by omega)]
  simp only [Option.bind_some]
  rw [hhd _ (by omega)]
  simp only [Option.bind_some]
  rw [if_neg (by omega), if_pos trivial, h3 _ (by omega)]
  simp only [Option.bind_some]
  rw [h2 _ (by omega)]
  simp only [Option.bind_some]
  rw [hb _ (by omega)]
  simp only [Option.bind_some, if_true, bne_self_eq_false]
  rw [laws_FnExactMapBatch.j2, if_neg (by simp), hhd _ (by omega)]
  simp only [Option.bind_some]
  rw [if_neg (by omega), if_pos trivial]

end Go.Proofs.Ytilcghnjmmlbeaa.Pure
