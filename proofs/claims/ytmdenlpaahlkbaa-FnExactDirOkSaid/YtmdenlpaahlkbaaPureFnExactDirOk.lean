/- The law FnExactDirOk, over numbers and lists: for every input that the statement speaks of the printed function answers true; conditions: those of the printed statement. -/
import Derived.Test.YtmdenlpaahlkbaaQFnExactDirOkx1
import Derived.Test.YtmdenlpaahlkbaaQFnExactDirOkx2
import Derived.Laws.BitsAllLaws
namespace Go.Proofs.Ytmdenlpaahlkbaa.Pure
open Go.RowKit Go.Proofs.Ytmdenlpaahlkbaa.QFnExactDirOk Go.Proofs.YtmdenlpaahlkbaaW.PrintWords Go.Proofs.YtmdenlpaahlkbaaW.PrintLast Go.Proofs.YtmdenlpaahlkbaaW.PrintMore
set_option linter.unusedVariables false
set_option linter.unusedSimpArgs false

/-! ### strings as lists of bytes -/
def mk (l : List UInt8) : ByteArray := ⟨l.toArray⟩
def nm (l : List UInt8) : List Int := l.map fun b => (b.toNat : Int)
theorem mk_of (s : ByteArray) : ∃ l, s = mk l := ⟨s.data.toList, rfl⟩
theorem mk_data (l : List UInt8) : (mk l).data.toList = l := rfl
theorem mk_toList (l : List UInt8) : (mk l).toList = l := by rw [ByteArray.toList_eq]; rfl
theorem mk_size (l : List UInt8) : (mk l).size = l.length := List.size_toArray
theorem mk_inj {a b : List UInt8} (h : mk a = mk b) : a = b := by rw [← mk_data a, h]; rfl
theorem mk_append (a b : List UInt8) : mk a ++ mk b = mk (a ++ b) := by
  apply ByteArray.ext
  rw [ByteArray.data_append]
  simp [mk]
theorem mk_extract (l : List UInt8) (i j : Nat) : (mk l).extract i j = mk ((l.drop i).take (j - i)) := by
  apply ByteArray.ext
  rw [ByteArray.data_extract]
  apply Array.ext'
  simp [mk, List.take_drop]
theorem mk_nil : (⟨#[]⟩ : ByteArray) = mk [] := rfl
theorem nm_append (a b : List UInt8) : nm (a ++ b) = nm a ++ nm b := by simp [nm]
theorem nm_length (a : List UInt8) : (nm a).length = a.length := by simp [nm]
theorem nm_nil : ([] : List Int) = nm [] := rfl
theorem strOf_nm (l : List UInt8) : strOfNums (nm l) = mk l := by
  unfold strOfNums nm mk
  rw [List.map_map]
  congr 1
  have : ∀ l : List UInt8, List.map ((fun n : Int => UInt8.ofNat n.toNat) ∘ fun b : UInt8 => (b.toNat : Int)) l = l := by
    intro l
    induction l with
    | nil => rfl
    | cons a l ih => rw [List.map_cons, ih]; simp
  rw [this]
theorem bt_mk (l : List UInt8) (n : Nat) (h : n < l.length) : bt (mk l) (n : Int) = ((l[n]).toNat : Int) := by
  unfold bt
  rw [dif_pos (show (n : Int).toNat < (mk l).size by rw [mk_size]; omega)]
  rfl
/-- A fact that omega doesn't look into. -/
structure Hd (p : Prop) : Prop where
  mk :: (out : p)
theorem w64 {x : Int} (h0 : -9223372036854775808 ≤ x) (h1 : x ≤ 9223372036854775807) : wrap64 x = x := by
  unfold wrap64
  omega
theorem nm_u8 (n : Nat) (h : n < 256) : nm [UInt8.ofNat n] = [(n : Int)] := by
  simp [nm]
  omega
theorem tmod_nat (x d : Nat) : Int.tmod (x : Int) (d : Int) = ((x % d : Nat) : Int) := by
  rw [Int.tmod_eq_emod_of_nonneg (by omega)]
  exact (Int.natCast_emod x d).symm
theorem tdiv_nat (x d : Nat) : Int.tdiv (x : Int) (d : Int) = ((x / d : Nat) : Int) := by
  rw [Int.tdiv_eq_ediv_of_nonneg (by omega)]
  exact (Int.natCast_ediv x d).symm
theorem drop_cons (l : List UInt8) (i : Nat) (h : i < l.length) : l.drop i = l[i] :: l.drop (i + 1) := List.drop_eq_getElem_cons h
/-- C holds at i, i + 1, .., d of them. -/
def allF (C : Nat → Bool) : Nat → Nat → Bool
  | 0, _ => true
  | d + 1, i => C i && allF C d (i + 1)
theorem allF_congr {C D : Nat → Bool} (d : Nat) : ∀ i, (∀ j, i ≤ j → j < i + d → C j = D j) → allF C d i = allF D d i := by
  induction d with
  | zero => intro i h; rfl
  | succ d ih =>
    intro i h
    simp only [allF]
    rw [h i (by omega) (by omega), ih (i + 1) (fun j h1 h2 => h j (by omega) (by omega))]
theorem allF_true {C : Nat → Bool} (d : Nat) : ∀ i, allF C d i = true ↔ ∀ j, i ≤ j → j < i + d → C j = true := by
  induction d with
  | zero => intro i; simp only [allF, true_iff]; intro j h1 h2; omega
  | succ d ih =>
    intro i
    simp only [allF, Bool.and_eq_true, ih]
    constructor
    · rintro ⟨h1, h2⟩ j h3 h4
      by_cases e : j = i
      · rw [e]; exact h1
      · exact h2 j (by omega) (by omega)
    · intro h
      exact ⟨h i (by omega) (by omega), fun j h1 h2 => h j (by omega) (by omega)⟩
theorem ev_now {α : Type} {g : Nat → Option α} {r : α} (h : ∀ k, g (k + 1) = some r) : Ev g r :=
  ⟨1, fun k hk => by obtain ⟨m, rfl⟩ : ∃ m, k = m + 1 := ⟨k - 1, by omega⟩; exact h m⟩
def spC (l : List S125) (i : Nat) : Bool :=
  decide (1 ≤ ((l.getD i z125).f0.size : Int) ∧ ((l.getD i z125).f0.size : Int) ≤ 10) && decide (0 ≤ (l.getD i z125).f1 ∧ (l.getD i z125).f1 ≤ 999) &&
    decide (0 ≤ (l.getD i z125).f2 ∧ (l.getD i z125).f2 ≤ 20000) && decide (0 ≤ (l.getD i z125).f3 ∧ (l.getD i z125).f3 ≤ 40) && (decide (i = 0) || Op.bytesLess (l.getD (i - 1) z125).f0.toList (l.getD i z125).f0.toList)
def dirOf (l : List S125) : Bool := decide (¬ (l.length : Int) > 60) && allF (spC l) l.length 0
theorem loop_all {F : Nat → Nat → Option Bool} {C : Nat → Bool} {n : Nat} {fin : Bool} (step : ∀ k i, i < n → F (k + 1) i = if C i = true then F k (i + 1) else some false)
    (stop : Ev (fun k => F k n) fin) (d : Nat) : ∀ i, i + d = n → Ev (fun k => F k i) (allF C d i && fin) := by
  induction d with
  | zero =>
    intro i hi
    obtain rfl : i = n := by omega
    rw [allF, Bool.true_and]
    exact stop
  | succ d ih =>
    intro i hi
    by_cases hC : C i = true
    · rw [allF, hC, Bool.true_and]
      exact Ev.step (fun k => by rw [step k i (by omega), if_pos hC]) (ih (i + 1) (by omega))
    · rw [allF, Bool.eq_false_iff.2 hC, Bool.false_and, Bool.false_and]
      exact ev_now fun k => by rw [step k i (by omega), if_neg hC]
theorem spec_l01In.is (a lo hi : Int) : spec_l01In.f a lo hi = some (decide (lo ≤ a ∧ a ≤ hi)) := by
  unfold spec_l01In.f
  by_cases h : a ≥ lo
  · rw [if_pos h]
    congr 1
    simp only [decide_eq_decide]
    exact ⟨fun h' => ⟨h, h'⟩, fun h' => h'.2⟩
  · rw [if_neg h, decide_eq_false (fun h' => h h'.1)]
theorem spec_l05Key.is (s : ByteArray) : spec_l05Key.f s = some (decide (1 ≤ (s.size : Int) ∧ (s.size : Int) ≤ 10)) := by
  unfold spec_l05Key.f
  rw [spec_l01In.is, Option.bind_some]
theorem spec_DirOk.step (l : List S125) (hs : l.length ≤ 1048576) (k i : Nat) (hlt : i < l.length) :
    spec_DirOk.l0 (k + 1) l (i : Int) = if spC l i = true then spec_DirOk.l0 k l ((i + 1 : Nat) : Int) else some false := by
  have e0 : rd_T125 l (i : Int) = l.getD i z125 := rfl
  have e3 : Hd (wrap64 ((i : Int) + 1) = ((i + 1 : Nat) : Int)) := Hd.mk <| by rw [w64 (by omega) (by omega)]; rfl
  have e2 : Hd (0 < i → wrap64 ((i : Int) - 1) = ((i - 1 : Nat) : Int)) := Hd.mk fun h => by rw [w64 (by omega) (by omega)]; omega
  rw [spec_DirOk.l0, if_pos (by omega), if_pos (by omega), e0, spec_l05Key.is, Option.bind_some, e3.out]
  simp only [spec_l01In.is, Option.bind_some]
  by_cases h2 : i = 0
  · simp only [if_neg (show ¬ ((i : Int) > 0) by omega)]
    unfold spC
    generalize l.getD i z125 = x
    generalize spec_DirOk.l0 k l ((i + 1 : Nat) : Int) = R
    by_cases h1 : 1 ≤ (x.f0.size : Int) ∧ (x.f0.size : Int) ≤ 10 <;> by_cases hv : 0 ≤ x.f1 ∧ x.f1 ≤ 999 <;> by_cases hg : 0 ≤ x.f2 ∧ x.f2 ≤ 20000 <;> by_cases he : 0 ≤ x.f3 ∧ x.f3 ≤ 40 <;> simp [h1, hv, hg, he, h2]
  · have e1 : rd_T125 l ((i - 1 : Nat) : Int) = l.getD (i - 1) z125 := rfl
    simp only [if_pos (show ((i : Int) > 0) by omega), e2.out (by omega), if_pos (show (0 : Int) ≤ ((i - 1 : Nat) : Int) by omega), if_pos (show ((i - 1 : Nat) : Int) < (l.length : Int) by omega), e1]
    unfold spC
    generalize l.getD i z125 = x
    generalize l.getD (i - 1) z125 = y
    generalize spec_DirOk.l0 k l ((i + 1 : Nat) : Int) = R
    by_cases h1 : 1 ≤ (x.f0.size : Int) ∧ (x.f0.size : Int) ≤ 10 <;> by_cases hv : 0 ≤ x.f1 ∧ x.f1 ≤ 999 <;> by_cases hg : 0 ≤ x.f2 ∧ x.f2 ≤ 20000 <;> by_cases he : 0 ≤ x.f3 ∧ x.f3 ≤ 40 <;> by_cases hb : Op.bytesLess y.f0.toList x.f0.toList = true <;> simp [h1, hv, hg, he, hb, h2]
theorem spec_DirOk.ev (l : List S125) (hs : l.length ≤ 1048576) : Ev (fun k => spec_DirOk.f k l) (dirOf l) := by
  have stop : Ev (fun k => spec_DirOk.l0 k l ((l.length : Nat) : Int)) true := ev_now fun k => by
    show spec_DirOk.l0 (k + 1) _ _ = _
    rw [spec_DirOk.l0, if_neg (by omega)]
  obtain ⟨K, h⟩ := loop_all (F := fun k i => spec_DirOk.l0 k l (i : Int)) (fun k i hi => spec_DirOk.step l hs k i hi) stop l.length 0 (by omega)
  dsimp only at h
  refine ⟨K, fun k hk => ?_⟩
  show spec_DirOk.f k _ = _
  unfold spec_DirOk.f dirOf
  by_cases h2 : (l.length : Int) > 60
  · rw [if_pos h2]
    simp [h2]
  · rw [if_neg h2, decide_eq_true h2, Bool.true_and]
    have := h k (by omega)
    rw [Bool.and_true] at this
    exact this
theorem impl_within.is (a lo hi : Int) : impl_within.f a lo hi = some (decide (lo ≤ a ∧ a ≤ hi)) := by
  unfold impl_within.f
  by_cases h : a ≥ lo
  · rw [if_pos h]
    congr 1
    simp only [decide_eq_decide]
    exact ⟨fun h' => ⟨h, h'⟩, fun h' => h'.2⟩
  · rw [if_neg h, decide_eq_false (fun h' => h h'.1)]
theorem impl_keyOk.is (s : ByteArray) : impl_keyOk.f s = some (decide (1 ≤ (s.size : Int) ∧ (s.size : Int) ≤ 10)) := by
  unfold impl_keyOk.f
  rw [impl_within.is, Option.bind_some]
theorem impl_DirOk.step (l : List S125) (hs : l.length ≤ 1048576) (k i : Nat) (hlt : i < l.length) :
    impl_DirOk.l0 (k + 1) l l (l.length : Int) (i : Int) = if spC l i = true then impl_DirOk.l0 k l l (l.length : Int) ((i + 1 : Nat) : Int) else some false := by
  have e0 : rd_T125 l (i : Int) = l.getD i z125 := rfl
  have e3 : Hd (wrap64 ((i : Int) + 1) = ((i + 1 : Nat) : Int)) := Hd.mk <| by rw [w64 (by omega) (by omega)]; rfl
  have e2 : Hd (0 < i → wrap64 ((i : Int) - 1) = ((i - 1 : Nat) : Int)) := Hd.mk fun h => by rw [w64 (by omega) (by omega)]; omega
  rw [impl_DirOk.l0, if_pos (by omega), if_pos (by omega), if_pos (by omega), e0, impl_keyOk.is, Option.bind_some, e3.out]
  simp only [impl_within.is, Option.bind_some]
  by_cases h2 : i = 0
  · simp only [if_neg (show ¬ ((i : Int) > 0) by omega)]
    unfold spC
    generalize l.getD i z125 = x
    generalize impl_DirOk.l0 k l l (l.length : Int) ((i + 1 : Nat) : Int) = R
    by_cases h1 : 1 ≤ (x.f0.size : Int) ∧ (x.f0.size : Int) ≤ 10 <;> by_cases hv : 0 ≤ x.f1 ∧ x.f1 ≤ 999 <;> by_cases hg : 0 ≤ x.f2 ∧ x.f2 ≤ 20000 <;> by_cases he : 0 ≤ x.f3 ∧ x.f3 ≤ 40 <;> simp [h1, hv, hg, he, h2]
  · have e1 : rd_T125 l ((i - 1 : Nat) : Int) = l.getD (i - 1) z125 := rfl
    simp only [if_pos (show ((i : Int) > 0) by omega), e2.out (by omega), if_pos (show (0 : Int) ≤ ((i - 1 : Nat) : Int) by omega), if_pos (show ((i - 1 : Nat) : Int) < (l.length : Int) by omega), e1]
    unfold spC
    generalize l.getD i z125 = x
    generalize l.getD (i - 1) z125 = y
    generalize impl_DirOk.l0 k l l (l.length : Int) ((i + 1 : Nat) : Int) = R
    by_cases h1 : 1 ≤ (x.f0.size : Int) ∧ (x.f0.size : Int) ≤ 10 <;> by_cases hv : 0 ≤ x.f1 ∧ x.f1 ≤ 999 <;> by_cases hg : 0 ≤ x.f2 ∧ x.f2 ≤ 20000 <;> by_cases he : 0 ≤ x.f3 ∧ x.f3 ≤ 40 <;> by_cases hb : Op.bytesLess y.f0.toList x.f0.toList = true <;> simp [h1, hv, hg, he, hb, h2]
theorem impl_DirOk.ev (l : List S125) (hs : l.length ≤ 1048576) : Ev (fun k => impl_DirOk.f k l) (dirOf l) := by
  have stop : Ev (fun k => impl_DirOk.l0 k l l (l.length : Int) ((l.length : Nat) : Int)) (decide (¬ (l.length : Int) > 60)) := ev_now fun k => by
    show impl_DirOk.l0 (k + 1) _ _ _ _ = _
    rw [impl_DirOk.l0, if_neg (by omega)]
    congr 1
    rw [decide_eq_decide]
    omega
  obtain ⟨K, h⟩ := loop_all (F := fun k i => impl_DirOk.l0 k l l (l.length : Int) (i : Int)) (fun k i hi => impl_DirOk.step l hs k i hi) stop l.length 0 (by omega)
  dsimp only at h
  unfold dirOf
  rw [Bool.and_comm]
  exact ⟨K, fun k hk => h k hk⟩
theorem laws_szSpot.is (a0 : ByteArray) (a1 : Int) (a2 : Int) (a3 : Int) (n : Int) (h0 : 0 ≤ n) (h1 : n ≤ 1048576) (b0 : a0.size ≤ 9223372036854775807) : ∃ r, laws_szSpot.f a0 a1 a2 a3 n = some r ∧ (0 ≤ r → a0.size ≤ 1048576 ∧ r ≤ n) := by
  unfold laws_szSpot.f
  rw [w64 (x := n - (a0.size : Int)) (by omega) (by omega)]
  by_cases c0 : n - (a0.size : Int) < 0
  · rw [if_pos c0]; exact ⟨_, rfl, fun h => by omega⟩
  rw [if_neg c0]
  exact ⟨_, rfl, fun h => by omega⟩
theorem rdL_Spot (l : List S124) (n : Nat) (h : n < l.length) : rd_T124 l (n : Int) = l[n] := by
  show l.getD n z124 = _
  simp [List.getD_eq_getElem?_getD, List.getElem?_eq_getElem h]
theorem laws_szSpotS.ev0 (l : List S124) (hl : l.length ≤ 1048576) (hw : ∀ x ∈ l, x.f0.size ≤ 9223372036854775807) (d : Nat) : ∀ (i : Nat) (n : Int), i + d = l.length → 0 ≤ n → n ≤ 1048576 →
    ∃ r, Ev (fun k => laws_szSpotS.l0 k l n (i : Int)) r ∧ (0 ≤ r → (∀ x ∈ l.drop i, x.f0.size ≤ 1048576) ∧ r ≤ n) := by
  induction d with
  | zero =>
    intro i n hi h0 h1
    refine ⟨n, ⟨1, fun k hk => ?_⟩, fun _ => ⟨fun x hx => (by rw [List.drop_eq_nil_of_le (by omega)] at hx; cases hx), by omega⟩⟩
    obtain ⟨k, rfl⟩ : ∃ m, k = m + 1 := ⟨k - 1, by omega⟩
    show laws_szSpotS.l0 (k + 1) _ _ _ = _
    rw [laws_szSpotS.l0, if_neg (by omega)]
  | succ d ih =>
    intro i n hi h0 h1
    have hlt : i < l.length := by omega
    have hm := hw l[i] (List.getElem_mem hlt)
    obtain ⟨r, hr, hf⟩ := laws_szSpot.is l[i].f0 l[i].f1 l[i].f2 l[i].f3 n h0 h1 (by omega)
    by_cases hneg : r < 0
    · refine ⟨-1, ⟨1, fun k hk => ?_⟩, fun h => by omega⟩
      obtain ⟨k, rfl⟩ : ∃ m, k = m + 1 := ⟨k - 1, by omega⟩
      show laws_szSpotS.l0 (k + 1) _ _ _ = _
      rw [laws_szSpotS.l0, if_pos (by omega), if_pos (by omega), rdL_Spot l i hlt, hr, Option.bind_some, if_pos hneg]
    · have hf' := hf (by omega)
      obtain ⟨r', h', hf2⟩ := ih (i + 1) r (by omega) (by omega) (by omega)
      refine ⟨r', Ev.step (fun k => ?_) h', fun hr' => ⟨fun x hx => ?_, by have := (hf2 hr').2; omega⟩⟩
      · show laws_szSpotS.l0 (k + 1) _ _ _ = laws_szSpotS.l0 k _ _ _
        rw [laws_szSpotS.l0, if_pos (by omega), if_pos (by omega), rdL_Spot l i hlt, hr, Option.bind_some, if_neg hneg, w64 (by omega) (by omega)]
        rfl
      · rw [List.drop_eq_getElem_cons hlt] at hx
        rcases List.mem_cons.1 hx with rfl | hx
        · omega
        · exact (hf2 hr').1 x hx
theorem laws_szSpotS.ev (l : List S124) (hl : l.length ≤ 9223372036854775807) (hw : ∀ x ∈ l, x.f0.size ≤ 9223372036854775807) (n : Int) (h0 : 0 ≤ n) (h1 : n ≤ 1048576) :
    ∃ r, Ev (fun k => laws_szSpotS.f k l n) r ∧ (0 ≤ r → l.length ≤ 1048576 ∧ (∀ x ∈ l, x.f0.size ≤ 1048576) ∧ r ≤ n) := by
  have e : Hd (wrap64 (n - (l.length : Int)) = n - (l.length : Int)) := Hd.mk <| w64 (by omega) (by omega)
  by_cases h : n - (l.length : Int) < 0
  · refine ⟨-1, ⟨0, fun k hk => ?_⟩, fun h => by omega⟩
    show laws_szSpotS.f k _ _ = _
    unfold laws_szSpotS.f
    rw [e.out, if_pos h]
  · obtain ⟨r, ⟨K, hK⟩, hf⟩ := laws_szSpotS.ev0 l (by omega) hw l.length 0 (n - (l.length : Int)) (by omega) (by omega) (by omega)
    refine ⟨r, ⟨K, fun k hk => ?_⟩, fun h => ⟨by omega, (hf h).1, by have := (hf h).2; omega⟩⟩
    show laws_szSpotS.f k _ _ = _
    unfold laws_szSpotS.f
    rw [e.out, if_neg h]
    exact hK k hk
def cvSpot (x : S124) : S125 := ⟨x.f0, x.f1, x.f2, x.f3⟩
theorem laws_toSpotS.ev0 (l : List S124) (hs : l.length ≤ 1048576) (d : Nat) : ∀ (i : Nat) (x : List S125), i + d = l.length → x.length = l.length → x.take i = (l.map cvSpot).take i →
    Ev (fun k => laws_toSpotS.l0 k l x (i : Int)) (l.map cvSpot) := by
  have hml : (l.map cvSpot).length = l.length := by simp
  induction d with
  | zero =>
    intro i x hi hx he
    refine ⟨1, fun k hk => ?_⟩
    obtain ⟨k, rfl⟩ : ∃ m, k = m + 1 := ⟨k - 1, by omega⟩
    show laws_toSpotS.l0 (k + 1) _ _ _ = _
    rw [laws_toSpotS.l0, if_neg (by omega)]
    rw [List.take_of_length_le (by omega), List.take_of_length_le (by omega)] at he
    rw [he]
  | succ d ih =>
    intro i x hi hx he
    have hlt : i < l.length := by omega
    refine Ev.step (fun k => ?_) (ih (i + 1) (x.set i (cvSpot l[i])) (by omega) (by simp; omega) ?_)
    · show laws_toSpotS.l0 (k + 1) _ _ _ = laws_toSpotS.l0 k _ _ _
      rw [laws_toSpotS.l0, if_pos (by omega), if_pos (by omega), rdL_Spot l i hlt]
      unfold laws_toSpot.f
      rw [Option.bind_some, if_pos (by omega), w64 (by omega) (by omega)]
      rfl
    · rw [List.take_succ_eq_append_getElem (by simp; omega), List.take_succ_eq_append_getElem (by simp; omega), List.take_set_of_le (by omega), he]
      simp
theorem laws_toSpotS.ev (l : List S124) (hs : l.length ≤ 1048576) : Ev (fun k => laws_toSpotS.f k l) (l.map cvSpot) := by
  obtain ⟨K, h⟩ := laws_toSpotS.ev0 l hs l.length 0 (List.replicate l.length z125) (by omega) (by simp) (by simp)
  dsimp only at h
  refine ⟨K, fun k hk => ?_⟩
  show laws_toSpotS.f k _ = _
  unfold laws_toSpotS.f
  rw [if_pos (by omega), if_pos (by omega)]
  exact h k hk
theorem laws_eqSpot.refl (a0 : ByteArray) (a1 : Int) (a2 : Int) (a3 : Int) : laws_eqSpot.f a0 a1 a2 a3 a0 a1 a2 a3 = some true := by
  unfold laws_eqSpot.f
  simp
theorem laws_eqSpotS.ev0 (l : List S125) (hs : l.length ≤ 1048576) (d : Nat) : ∀ (i : Nat), i + d = l.length → Ev (fun k => laws_eqSpotS.l0 k l l (i : Int)) true := by
  induction d with
  | zero =>
    intro i hi
    refine ⟨1, fun k hk => ?_⟩
    obtain ⟨k, rfl⟩ : ∃ m, k = m + 1 := ⟨k - 1, by omega⟩
    show laws_eqSpotS.l0 (k + 1) _ _ _ = _
    rw [laws_eqSpotS.l0, if_neg (by omega)]
  | succ d ih =>
    intro i hi
    refine Ev.step (fun k => ?_) (ih (i + 1) (by omega))
    show laws_eqSpotS.l0 (k + 1) _ _ _ = laws_eqSpotS.l0 k _ _ _
    rw [laws_eqSpotS.l0, if_pos (by omega), if_pos (by omega), if_pos (by omega), laws_eqSpot.refl, Option.bind_some, if_pos rfl, w64 (by omega) (by omega)]
    rfl
theorem laws_eqSpotS.ev (l : List S125) (hs : l.length ≤ 1048576) : Ev (fun k => laws_eqSpotS.f k l l) true := by
  obtain ⟨K, h⟩ := laws_eqSpotS.ev0 l hs l.length 0 (by omega)
  refine ⟨K, fun k hk => ?_⟩
  show laws_eqSpotS.f k _ _ = _
  unfold laws_eqSpotS.f
  rw [if_pos rfl]
  exact h k hk
theorem FnExactDirOk : ∀ (l0 : List S124), (l0.length ≤ maxLen ∧ ∀ y ∈ l0, (y.f0.size ≤ maxLen) ∧ ((Lit.int .i64 y.f1).wf = true) ∧ ((Lit.int .i64 y.f2).wf = true) ∧ ((Lit.int .i64 y.f3).wf = true)) → ∃ k, laws_FnExactDirOk.f k l0 = some true := by
  intro l hw
  unfold maxLen at hw
  obtain ⟨r, ⟨K0, h0⟩, hf⟩ := laws_szSpotS.ev l hw.1 (fun x hx => (hw.2 x hx).1) 1048576 (by omega) (by omega)
  dsimp only at h0
  by_cases hr : r < 0
  · refine ⟨K0, ?_⟩
    unfold laws_FnExactDirOk.f
    rw [h0 _ (by omega), Option.bind_some, if_pos hr]
  obtain ⟨hl, hsz, _⟩ := hf (by omega)
  have hml : (l.map cvSpot).length ≤ 1048576 := by simpa using hl
  obtain ⟨K1, h1⟩ := spec_DirOk.ev (l.map cvSpot) hml
  obtain ⟨K2, h2⟩ := impl_DirOk.ev (l.map cvSpot) hml
  obtain ⟨K3, h3⟩ := laws_toSpotS.ev l hl
  obtain ⟨K4, h4⟩ := laws_eqSpotS.ev (l.map cvSpot) hml
  dsimp only at h1 h2 h3 h4
  refine ⟨K0 + K1 + K2 + K3 + K4, ?_⟩
  unfold laws_FnExactDirOk.f
  rw [h0 _ (by omega), Option.bind_some, if_neg hr, h3 _ (by omega)]
  simp only [Option.bind_some]
  rw [h1 _ (by omega), h2 _ (by omega), h4 _ (by omega)]
  simp

end Go.Proofs.Ytmdenlpaahlkbaa.Pure
