/- The law FnExactManifestOk, over numbers and lists: for every input that the statement speaks of the printed function answers true; conditions: those of the printed statement. -/
import Derived.Test.YtmdenlpaahlkbaaQFnExactManifestOkx1
import Derived.Test.YtmdenlpaahlkbaaQFnExactManifestOkx2
import Derived.Test.YtmdenlpaahlkbaaQFnExactManifestOkx3
import Derived.Laws.BitsAllLaws
namespace Go.Proofs.Ytmdenlpaahlkbaa.Pure
open Go.RowKit Go.Proofs.Ytmdenlpaahlkbaa.QFnExactManifestOk Go.Proofs.YtmdenlpaahlkbaaW.PrintWords Go.Proofs.YtmdenlpaahlkbaaW.PrintLast Go.Proofs.YtmdenlpaahlkbaaW.PrintMore
set_option linter.unusedVariables false
set_option linter.unusedSimpArgs false

/-! ### strings as lists of bytes -/
def mk (l : List UInt8) : ByteArray := ⟨l.toArray⟩
def nm (l : List UInt8) : List Int := l.map fun b => (b.toNat : Int)
theorem mk_of (s : ByteArray) : ∃ l, s = mk l := ⟨s.data.toList, rfl⟩
theorem mk_data (l : List UInt8) : (mk l).data.toList = l := rfl
theorem mk_toList (l : List UInt8) : (mk l).toList = l := by rw [ByteArray.toList_eq]; rfl
theorem mk_size (l : List UInt8) : (mk l).size = l.length := List.size_toArray
theorem mk_inj {a b : List UInt8} (h : mk a = mk b) : a = b := by rw [← mk_data a, h]; rfl
theorem mk_append (a b : List UInt8) : mk a ++ mk b = mk (a ++ b) := by
  apply ByteArray.ext
  rw [ByteArray.data_append]
  simp [mk]
theorem mk_extract (l : List UInt8) (i j : Nat) : (mk l).extract i j = mk ((l.drop i).take (j - i)) := by
  apply ByteArray.ext
  rw [ByteArray.data_extract]
  apply Array.ext'
  simp [mk, List.take_drop]
theorem mk_nil : (⟨#[]⟩ : ByteArray) = mk [] := rfl
theorem nm_append (a b : List UInt8) : nm (a ++ b) = nm a ++ nm b := by simp [nm]
theorem nm_length (a : List UInt8) : (nm a).length = a.length := by simp [nm]
theorem nm_nil : ([] : List Int) = nm [] := rfl
theorem strOf_nm (l : List UInt8) : strOfNums (nm l) = mk l := by
  unfold strOfNums nm mk
  rw [List.map_map]
  congr 1
  have : ∀ l : List UInt8, List.map ((fun n : Int => UInt8.ofNat n.toNat) ∘ fun b : UInt8 => (b.toNat : Int)) l = l := by
    intro l
    induction l with
    | nil => rfl
    | cons a l ih => rw [List.map_cons, ih]; simp
  rw [this]
theorem bt_mk (l : List UInt8) (n : Nat) (h : n < l.length) : bt (mk l) (n : Int) = ((l[n]).toNat : Int) := by
  unfold bt
  rw [dif_pos (show (n : Int).toNat < (mk l).size by rw [mk_size]; omega)]
  rfl
/-- A fact that omega doesn't look into. -/
structure Hd (p : Prop) : Prop where
  mk :: (out : p)
theorem w64 {x : Int} (h0 : -9223372036854775808 ≤ x) (h1 : x ≤ 9223372036854775807) : wrap64 x = x := by
  unfold wrap64
  omega
theorem nm_u8 (n : Nat) (h : n < 256) : nm [UInt8.ofNat n] = [(n : Int)] := by
  simp [nm]
  omega
theorem tmod_nat (x d : Nat) : Int.tmod (x : Int) (d : Int) = ((x % d : Nat) : Int) := by
  rw [Int.tmod_eq_emod_of_nonneg (by omega)]
  exact (Int.natCast_emod x d).symm
theorem tdiv_nat (x d : Nat) : Int.tdiv (x : Int) (d : Int) = ((x / d : Nat) : Int) := by
  rw [Int.tdiv_eq_ediv_of_nonneg (by omega)]
  exact (Int.natCast_ediv x d).symm
theorem drop_cons (l : List UInt8) (i : Nat) (h : i < l.length) : l.drop i = l[i] :: l.drop (i + 1) := List.drop_eq_getElem_cons h
/-- C holds at i, i + 1, .., d of them. -/
def allF (C : Nat → Bool) : Nat → Nat → Bool
  | 0, _ => true
  | d + 1, i => C i && allF C d (i + 1)
theorem allF_congr {C D : Nat → Bool} (d : Nat) : ∀ i, (∀ j, i ≤ j → j < i + d → C j = D j) → allF C d i = allF D d i := by
  induction d with
  | zero => intro i h; rfl
  | succ d ih =>
    intro i h
    simp only [allF]
    rw [h i (by omega) (by omega), ih (i + 1) (fun j h1 h2 => h j (by omega) (by omega))]
theorem allF_true {C : Nat → Bool} (d : Nat) : ∀ i, allF C d i = true ↔ ∀ j, i ≤ j → j < i + d → C j = true := by
  induction d with
  | zero => intro i; simp only [allF, true_iff]; intro j h1 h2; omega
  | succ d ih =>
    intro i
    simp only [allF, Bool.and_eq_true, ih]
    constructor
    · rintro ⟨h1, h2⟩ j h3 h4
      by_cases e : j = i
      · rw [e]; exact h1
      · exact h2 j (by omega) (by omega)
    · intro h
      exact ⟨h i (by omega) (by omega), fun j h1 h2 => h j (by omega) (by omega)⟩
theorem ev_now {α : Type} {g : Nat → Option α} {r : α} (h : ∀ k, g (k + 1) = some r) : Ev g r :=
  ⟨1, fun k hk => by obtain ⟨m, rfl⟩ : ∃ m, k = m + 1 := ⟨k - 1, by omega⟩; exact h m⟩
theorem rd_nat (l : List Int) (n : Nat) : rd l (n : Int) = l.getD n 0 := rfl
/-- Place i of the list is in lo .. hi, and above the one ahead. -/
def riseC (l : List Int) (lo hi : Int) (i : Nat) : Bool := decide (lo ≤ l.getD i 0 ∧ l.getD i 0 ≤ hi) && (decide (i = 0) || decide (l.getD (i - 1) 0 < l.getD i 0))
def confOf (l : List Int) : Bool := allF (riseC l 1 4) l.length 0 && decide (1 ≤ (l.length : Int) ∧ (l.length : Int) ≤ 4)
/-- Place i of the segments. -/
def manC (l : List Int) (next : Int) (i : Nat) : Bool := decide (0 ≤ l.getD i 0 ∧ l.getD i 0 ≤ 999) && decide (¬ l.getD i 0 ≥ next) && (decide (i = 0) || decide (¬ l.getD (i - 1) 0 ≥ l.getD i 0))
def manOf (l : List Int) (next base bt : Int) (c : List Int) : Bool :=
  allF (manC l next) l.length 0 && (decide (1 ≤ (l.length : Int) ∧ (l.length : Int) ≤ 8) && (decide (next ≤ 1000) && (decide (0 ≤ base ∧ base ≤ 100000) && (decide (0 ≤ bt ∧ bt ≤ 100000) && confOf c))))
theorem spec_l01In.is (a lo hi : Int) : spec_l01In.f a lo hi = some (decide (lo ≤ a ∧ a ≤ hi)) := by
  unfold spec_l01In.f
  by_cases h : a ≥ lo
  · rw [if_pos h]
    congr 1
    simp only [decide_eq_decide]
    exact ⟨fun h' => ⟨h, h'⟩, fun h' => h'.2⟩
  · rw [if_neg h, decide_eq_false (fun h' => h h'.1)]
theorem spec_l07Rise.ev0 (l : List Int) (lw hg : Int) (hs : l.length ≤ 17592186043904) (d : Nat) : ∀ (i : Nat), i + d = l.length →
    Ev (fun k => spec_l07Rise.l0 k l lw hg (i : Int)) (allF (riseC l lw hg) d i) := by
  induction d with
  | zero =>
    intro i hi
    refine ev_now fun k => ?_
    show spec_l07Rise.l0 (k + 1) _ _ _ _ = _
    rw [spec_l07Rise.l0, if_neg (by omega)]
    rfl
  | succ d ih =>
    intro i hi
    have e0 : rd l (i : Int) = l.getD i 0 := rfl
    by_cases h1 : lw ≤ l.getD i 0 ∧ l.getD i 0 ≤ hg
    · by_cases h2 : i = 0
      · have hC : riseC l lw hg i = true := by simp only [riseC, decide_eq_true h1, decide_eq_true h2, Bool.true_or, Bool.and_true]
        simp only [allF, hC, Bool.true_and]
        refine Ev.step (fun k => ?_) (ih (i + 1) (by omega))
        show spec_l07Rise.l0 (k + 1) _ _ _ _ = spec_l07Rise.l0 k _ _ _ _
        rw [spec_l07Rise.l0, if_pos (by omega), if_pos (by omega), spec_l01In.is, e0, decide_eq_true h1]
        simp only [Option.bind_some, if_true]
        rw [if_neg (by omega), w64 (by omega) (by omega)]
        rfl
      · have e1 : rd l (wrap64 ((i : Int) - 1)) = l.getD (i - 1) 0 := by
          rw [w64 (by omega) (by omega), show (i : Int) - 1 = ((i - 1 : Nat) : Int) by omega, rd_nat]
        have e2 : wrap64 ((i : Int) - 1) = ((i - 1 : Nat) : Int) := by rw [w64 (by omega) (by omega)]; omega
        by_cases h3 : l.getD (i - 1) 0 < l.getD i 0
        · have hC : riseC l lw hg i = true := by simp only [riseC, decide_eq_true h1, decide_eq_true h3, Bool.or_true, Bool.and_true]
          simp only [allF, hC, Bool.true_and]
          refine Ev.step (fun k => ?_) (ih (i + 1) (by omega))
          show spec_l07Rise.l0 (k + 1) _ _ _ _ = spec_l07Rise.l0 k _ _ _ _
          rw [spec_l07Rise.l0, if_pos (by omega), if_pos (by omega), spec_l01In.is, e0, decide_eq_true h1]
          simp only [Option.bind_some, if_true]
          rw [if_pos (by omega), if_pos (by omega), if_pos (by omega), e1, if_neg (by omega), w64 (x := (i : Int) + 1) (by omega) (by omega)]
          rfl
        · have hC : riseC l lw hg i = false := by simp only [riseC, decide_eq_true h1, decide_eq_false h3, decide_eq_false h2, Bool.or_false, Bool.and_false]
          simp only [allF, hC, Bool.false_and]
          refine ev_now fun k => ?_
          show spec_l07Rise.l0 (k + 1) _ _ _ _ = _
          rw [spec_l07Rise.l0, if_pos (by omega), if_pos (by omega), spec_l01In.is, e0, decide_eq_true h1]
          simp only [Option.bind_some, if_true]
          rw [if_pos (by omega), if_pos (by omega), if_pos (by omega), e1, if_pos (by omega)]
    · have hC : riseC l lw hg i = false := by simp only [riseC, decide_eq_false h1, Bool.false_and]
      simp only [allF, hC, Bool.false_and]
      refine ev_now fun k => ?_
      show spec_l07Rise.l0 (k + 1) _ _ _ _ = _
      rw [spec_l07Rise.l0, if_pos (by omega), if_pos (by omega), spec_l01In.is, e0, decide_eq_false h1]
      simp
theorem spec_ConfOk.ev (l : List Int) (hs : l.length ≤ 17592186043904) : Ev (fun k => spec_ConfOk.f k l) (confOf l) := by
  obtain ⟨K, h⟩ := spec_l07Rise.ev0 l 1 4 hs l.length 0 (by omega)
  dsimp only at h
  refine ⟨K, fun k hk => ?_⟩
  show spec_ConfOk.f k _ = _
  unfold spec_ConfOk.f spec_l07Rise.f confOf
  rw [spec_l01In.is]
  by_cases hc : 1 ≤ (l.length : Int) ∧ (l.length : Int) ≤ 4
  · rw [decide_eq_true hc]
    simp only [Option.bind_some, if_true]
    have := h k hk
    rw [show ((0 : Nat) : Int) = 0 from rfl] at this
    rw [this]
    simp
  · rw [decide_eq_false hc]
    simp
theorem rise_man (l : List Int) (next : Int) (h0 : 0 ≤ next) (h1 : next ≤ 1000) : allF (riseC l 0 (next - 1)) l.length 0 = allF (manC l next) l.length 0 := by
  refine allF_congr l.length 0 fun j _ _ => ?_
  unfold riseC manC
  generalize l.getD j 0 = x
  generalize l.getD (j - 1) 0 = y
  by_cases h2 : 0 ≤ x ∧ x ≤ next - 1
  · rw [decide_eq_true h2, decide_eq_true (show 0 ≤ x ∧ x ≤ 999 by omega), decide_eq_true (show ¬ x ≥ next by omega), Bool.true_and, Bool.true_and, Bool.true_and]
    congr 1
    rw [decide_eq_decide]
    omega
  · rw [decide_eq_false h2, Bool.false_and]
    by_cases h3 : 0 ≤ x ∧ x ≤ 999
    · rw [decide_eq_false (show ¬ ¬ x ≥ next by omega), Bool.and_false, Bool.false_and]
    · rw [decide_eq_false h3, Bool.false_and, Bool.false_and]
theorem man_neg (l : List Int) (next : Int) (h0 : ¬ 0 ≤ next) (hl : 1 ≤ l.length) : allF (manC l next) l.length 0 = false := by
  obtain ⟨d, hd⟩ : ∃ d, l.length = d + 1 := ⟨l.length - 1, by omega⟩
  rw [hd, allF]
  have : manC l next 0 = false := by
    unfold manC
    by_cases h3 : 0 ≤ l.getD 0 0 ∧ l.getD 0 0 ≤ 999
    · rw [decide_eq_false (show ¬ ¬ l.getD 0 0 ≥ next by omega), Bool.and_false, Bool.false_and]
    · rw [decide_eq_false h3, Bool.false_and, Bool.false_and]
  rw [this, Bool.false_and]
theorem spec_ManifestOk.ev (l : List Int) (next base bt : Int) (c : List Int) (hs : l.length ≤ 1048576) (hc : c.length ≤ 1048576) : Ev (fun k => spec_ManifestOk.f k l next base bt c) (manOf l next base bt c) := by
  obtain ⟨K1, h1⟩ := spec_l07Rise.ev0 l 0 (next - 1) (by omega) l.length 0 (by omega)
  obtain ⟨K2, h2⟩ := spec_ConfOk.ev c (by omega)
  dsimp only at h1 h2
  refine ⟨K1 + K2, fun k hk => ?_⟩
  show spec_ManifestOk.f k _ _ _ _ _ = _
  unfold spec_ManifestOk.f spec_l07Rise.f manOf
  by_cases g1 : 1 ≤ (l.length : Int) ∧ (l.length : Int) ≤ 8
  · by_cases g2 : 0 ≤ next ∧ next ≤ 1000
    · have := h1 k (by omega)
      rw [show ((0 : Nat) : Int) = 0 from rfl, rise_man l next g2.1 g2.2] at this
      rw [w64 (x := next - 1) (by omega) (by omega), this, h2 k (by omega)]
      simp only [spec_l01In.is, Option.bind_some]
      generalize allF (manC l next) l.length 0 = b
      have g2' : next ≤ 1000 := g2.2
      by_cases h3 : 0 ≤ base ∧ base ≤ 100000 <;> by_cases h4 : 0 ≤ bt ∧ bt ≤ 100000 <;> cases b <;> simp [g1, g2, g2', h3, h4]
    · rw [spec_l01In.is, spec_l01In.is, decide_eq_true g1, decide_eq_false g2]
      simp only [Option.bind_some, if_true]
      rw [if_neg (by simp)]
      by_cases g3 : next ≤ 1000
      · rw [man_neg l next (by omega) (by omega), Bool.false_and]
      · rw [decide_eq_false g3]
        simp
  · rw [spec_l01In.is, decide_eq_false g1]
    simp
theorem loop_all {F : Nat → Nat → Option Bool} {C : Nat → Bool} {n : Nat} {fin : Bool} (step : ∀ k i, i < n → F (k + 1) i = if C i = true then F k (i + 1) else some false)
    (stop : Ev (fun k => F k n) fin) (d : Nat) : ∀ i, i + d = n → Ev (fun k => F k i) (allF C d i && fin) := by
  induction d with
  | zero =>
    intro i hi
    obtain rfl : i = n := by omega
    rw [allF, Bool.true_and]
    exact stop
  | succ d ih =>
    intro i hi
    by_cases hC : C i = true
    · rw [allF, hC, Bool.true_and]
      exact Ev.step (fun k => by rw [step k i (by omega), if_pos hC]) (ih (i + 1) (by omega))
    · rw [allF, Bool.eq_false_iff.2 hC, Bool.false_and, Bool.false_and]
      exact ev_now fun k => by rw [step k i (by omega), if_neg hC]
theorem impl_within.is (a lo hi : Int) : impl_within.f a lo hi = some (decide (lo ≤ a ∧ a ≤ hi)) := by
  unfold impl_within.f
  by_cases h : a ≥ lo
  · rw [if_pos h]
    congr 1
    simp only [decide_eq_decide]
    exact ⟨fun h' => ⟨h, h'⟩, fun h' => h'.2⟩
  · rw [if_neg h, decide_eq_false (fun h' => h h'.1)]
theorem impl_ConfOk.ev0 (l : List Int) (hs : l.length ≤ 17592186043904) (d : Nat) : ∀ (i : Nat), i + d = l.length →
    Ev (fun k => impl_ConfOk.l0 k l l (l.length : Int) (i : Int)) (allF (riseC l 1 4) d i && decide (1 ≤ (l.length : Int) ∧ (l.length : Int) ≤ 4)) := by
  induction d with
  | zero =>
    intro i hi
    refine ev_now fun k => ?_
    show impl_ConfOk.l0 (k + 1) _ _ _ _ = _
    rw [impl_ConfOk.l0, if_neg (by omega)]
    rw [impl_within.is]; simp [allF]
  | succ d ih =>
    intro i hi
    have e0 : rd l (i : Int) = l.getD i 0 := rfl
    by_cases h1 : 1 ≤ l.getD i 0 ∧ l.getD i 0 ≤ 4
    · by_cases h2 : i = 0
      · have hC : riseC l 1 4 i = true := by simp only [riseC, decide_eq_true h1, decide_eq_true h2, Bool.true_or, Bool.and_true]
        simp only [allF, hC, Bool.true_and]
        refine Ev.step (fun k => ?_) (ih (i + 1) (by omega))
        show impl_ConfOk.l0 (k + 1) _ _ _ _ = impl_ConfOk.l0 k _ _ _ _
        rw [impl_ConfOk.l0, if_pos (by omega), if_pos (by omega), if_pos (by omega), impl_within.is, e0, decide_eq_true h1]
        simp only [Option.bind_some, if_true]
        rw [if_neg (by omega), w64 (by omega) (by omega)]
        rfl
      · have e1 : rd l (wrap64 ((i : Int) - 1)) = l.getD (i - 1) 0 := by
          rw [w64 (by omega) (by omega), show (i : Int) - 1 = ((i - 1 : Nat) : Int) by omega, rd_nat]
        have e2 : wrap64 ((i : Int) - 1) = ((i - 1 : Nat) : Int) := by rw [w64 (by omega) (by omega)]; omega
        by_cases h3 : l.getD (i - 1) 0 < l.getD i 0
        · have hC : riseC l 1 4 i = true := by simp only [riseC, decide_eq_true h1, decide_eq_true h3, Bool.or_true, Bool.and_true]
          simp only [allF, hC, Bool.true_and]
          refine Ev.step (fun k => ?_) (ih (i + 1) (by omega))
          show impl_ConfOk.l0 (k + 1) _ _ _ _ = impl_ConfOk.l0 k _ _ _ _
          rw [impl_ConfOk.l0, if_pos (by omega), if_pos (by omega), if_pos (by omega), impl_within.is, e0, decide_eq_true h1]
          simp only [Option.bind_some, if_true]
          rw [if_pos (by omega), if_pos (by omega), if_pos (by omega), e1, if_neg (by omega), w64 (x := (i : Int) + 1) (by omega) (by omega)]
          rfl
        · have hC : riseC l 1 4 i = false := by simp only [riseC, decide_eq_true h1, decide_eq_false h3, decide_eq_false h2, Bool.or_false, Bool.and_false]
          simp only [allF, hC, Bool.false_and]
          refine ev_now fun k => ?_
          show impl_ConfOk.l0 (k + 1) _ _ _ _ = _
          rw [impl_ConfOk.l0, if_pos (by omega), if_pos (by omega), if_pos (by omega), impl_within.is, e0, decide_eq_true h1]
          simp only [Option.bind_some, if_true]
          rw [if_pos (by omega), if_pos (by omega), if_pos (by omega), e1, if_pos (by omega)]
    · have hC : riseC l 1 4 i = false := by simp only [riseC, decide_eq_false h1, Bool.false_and]
      simp only [allF, hC, Bool.false_and]
      refine ev_now fun k => ?_
      show impl_ConfOk.l0 (k + 1) _ _ _ _ = _
      rw [impl_ConfOk.l0, if_pos (by omega), if_pos (by omega), if_pos (by omega), impl_within.is, e0, decide_eq_false h1]
      simp
theorem impl_ConfOk.ev (l : List Int) (hs : l.length ≤ 17592186043904) : Ev (fun k => impl_ConfOk.f k l) (confOf l) := by
  obtain ⟨K, h⟩ := impl_ConfOk.ev0 l hs l.length 0 (by omega)
  exact ⟨K, fun k hk => h k hk⟩
theorem impl_ManifestOk.step (l : List Int) (next base bt : Int) (c : List Int) (hs : l.length ≤ 1048576) (k i : Nat) (hlt : i < l.length) :
    impl_ManifestOk.l0 (k + 1) l (l.length : Int) (i : Int) l next base bt c = if manC l next i = true then impl_ManifestOk.l0 k l (l.length : Int) ((i + 1 : Nat) : Int) l next base bt c else some false := by
  have e0 : rd l (i : Int) = l.getD i 0 := rfl
  have e3 : Hd (wrap64 ((i : Int) + 1) = ((i + 1 : Nat) : Int)) := Hd.mk <| by rw [w64 (by omega) (by omega)]; rfl
  have e2 : Hd (0 < i → wrap64 ((i : Int) - 1) = ((i - 1 : Nat) : Int)) := Hd.mk fun h => by rw [w64 (by omega) (by omega)]; omega
  rw [impl_ManifestOk.l0, if_pos (by omega), if_pos (by omega), if_pos (by omega), e0, impl_within.is, Option.bind_some, e3.out]
  by_cases h2 : i = 0
  · simp only [if_neg (show ¬ ((i : Int) > 0) by omega)]
    unfold manC
    generalize l.getD i 0 = x
    generalize impl_ManifestOk.l0 k l (l.length : Int) ((i + 1 : Nat) : Int) l next base bt c = R
    by_cases h1 : 0 ≤ x ∧ x ≤ 999 <;> by_cases hv : x ≥ next <;> simp [h1, hv, h2]
  · have e1 : rd l ((i - 1 : Nat) : Int) = l.getD (i - 1) 0 := rfl
    simp only [if_pos (show ((i : Int) > 0) by omega), e2.out (by omega), if_pos (show (0 : Int) ≤ ((i - 1 : Nat) : Int) by omega), if_pos (show ((i - 1 : Nat) : Int) < (l.length : Int) by omega), e1]
    unfold manC
    generalize l.getD i 0 = x
    generalize l.getD (i - 1) 0 = y
    generalize impl_ManifestOk.l0 k l (l.length : Int) ((i + 1 : Nat) : Int) l next base bt c = R
    by_cases h1 : 0 ≤ x ∧ x ≤ 999 <;> by_cases hv : x ≥ next <;> by_cases hb : y ≥ x <;> simp [h1, hv, hb, h2]
theorem impl_ManifestOk.ev (l : List Int) (next base bt : Int) (c : List Int) (hs : l.length ≤ 1048576) (hc : c.length ≤ 1048576) : Ev (fun k => impl_ManifestOk.f k l next base bt c) (manOf l next base bt c) := by
  have stop : Ev (fun k => impl_ManifestOk.l0 k l (l.length : Int) ((l.length : Nat) : Int) l next base bt c)
      (decide (1 ≤ (l.length : Int) ∧ (l.length : Int) ≤ 8) && (decide (next ≤ 1000) && (decide (0 ≤ base ∧ base ≤ 100000) && (decide (0 ≤ bt ∧ bt ≤ 100000) && confOf c)))) := by
    obtain ⟨K, hK⟩ := impl_ConfOk.ev c (by omega)
    dsimp only at hK
    refine ⟨K + 1, fun k hk => ?_⟩
    obtain ⟨k, rfl⟩ : ∃ m, k = m + 1 := ⟨k - 1, by omega⟩
    show impl_ManifestOk.l0 (k + 1) _ _ _ _ _ _ _ _ = _
    rw [impl_ManifestOk.l0, if_neg (by omega), hK k (by omega)]
    simp only [impl_within.is, Option.bind_some]
    by_cases h1 : 1 ≤ (l.length : Int) ∧ (l.length : Int) ≤ 8 <;> by_cases h2 : next ≤ 1000 <;> by_cases h3 : 0 ≤ base ∧ base ≤ 100000 <;> by_cases h4 : 0 ≤ bt ∧ bt ≤ 100000 <;> simp [h1, h2, h3, h4]
  obtain ⟨K, h⟩ := loop_all (F := fun k i => impl_ManifestOk.l0 k l (l.length : Int) (i : Int) l next base bt c) (fun k i hi => impl_ManifestOk.step l next base bt c hs k i hi) stop l.length 0 (by omega)
  exact ⟨K, fun k hk => h k hk⟩
theorem laws_toIntS.ev0 (l : List Int) (hs : l.length ≤ 17592186043904) (d : Nat) : ∀ (i : Nat) (x : List Int), i + d = l.length → x.length = l.length → x.take i = l.take i →
    Ev (fun k => laws_toIntS.l0 k l x (i : Int)) l := by
  induction d with
  | zero =>
    intro i x hi hx he
    refine ev_now fun k => ?_
    show laws_toIntS.l0 (k + 1) _ _ _ = _
    rw [laws_toIntS.l0, if_neg (by omega)]
    rw [List.take_of_length_le (by omega), List.take_of_length_le (by omega)] at he
    rw [he]
  | succ d ih =>
    intro i x hi hx he
    refine Ev.step (fun k => ?_) (ih (i + 1) (x.set i (l.getD i 0)) (by omega) (by simp; omega) ?_)
    · show laws_toIntS.l0 (k + 1) _ _ _ = laws_toIntS.l0 k _ _ _
      rw [laws_toIntS.l0, if_pos (by omega), if_pos (by omega), if_pos (by omega), w64 (by omega) (by omega)]
      rfl
    · rw [List.take_succ_eq_append_getElem (by simp; omega), List.take_succ_eq_append_getElem (by omega : i < l.length), List.take_set_of_le (by omega), he]
      simp [List.getD_eq_getElem?_getD, List.getElem?_eq_getElem (show i < l.length by omega)]
theorem laws_toIntS.ev (l : List Int) (hs : l.length ≤ 17592186043904) : Ev (fun k => laws_toIntS.f k l) l := by
  obtain ⟨K, h⟩ := laws_toIntS.ev0 l hs l.length 0 (List.replicate l.length 0) (by omega) (by simp) (by simp)
  dsimp only at h
  refine ⟨K, fun k hk => ?_⟩
  show laws_toIntS.f k _ = _
  unfold laws_toIntS.f
  rw [if_pos (by omega), if_pos (by omega)]
  exact h k hk
theorem laws_eqIntS.ev0 (a b : List Int) (hs : a.length ≤ 17592186043904) (hab : a.length = b.length) (d : Nat) : ∀ (i : Nat), i + d = a.length →
    Ev (fun k => laws_eqIntS.l0 k a b (i : Int)) (decide (a.drop i = b.drop i)) := by
  induction d with
  | zero =>
    intro i hi
    refine ev_now fun k => ?_
    show laws_eqIntS.l0 (k + 1) _ _ _ = _
    rw [laws_eqIntS.l0, if_neg (by omega), List.drop_eq_nil_of_le (by omega), List.drop_eq_nil_of_le (by omega)]
    rfl
  | succ d ih =>
    intro i hi
    have ed : decide (a.drop i = b.drop i) = (decide (a[i]'(by omega) = b[i]'(by omega)) && decide (a.drop (i + 1) = b.drop (i + 1))) := by
      rw [List.drop_eq_getElem_cons (show i < a.length by omega), List.drop_eq_getElem_cons (show i < b.length by omega), ← Bool.decide_and, decide_eq_decide]
      exact List.cons_eq_cons
    rw [ed]
    have ea : rd a (i : Int) = a[i]'(by omega) := by rw [rd_nat]; simp [List.getD_eq_getElem?_getD, List.getElem?_eq_getElem (show i < a.length by omega)]
    have eb : rd b (i : Int) = b[i]'(by omega) := by rw [rd_nat]; simp [List.getD_eq_getElem?_getD, List.getElem?_eq_getElem (show i < b.length by omega)]
    by_cases h : a[i]'(by omega) = b[i]'(by omega)
    · have hh := ih (i + 1) (by omega)
      rw [decide_eq_true h, Bool.true_and]
      refine Ev.step (fun k => ?_) hh
      show laws_eqIntS.l0 (k + 1) _ _ _ = laws_eqIntS.l0 k _ _ _
      rw [laws_eqIntS.l0, if_pos (by omega), if_pos (by omega), if_pos (by omega), ea, eb, if_pos h, w64 (by omega) (by omega)]
      rfl
    · refine ev_now fun k => ?_
      show laws_eqIntS.l0 (k + 1) _ _ _ = _
      rw [laws_eqIntS.l0, if_pos (by omega), if_pos (by omega), if_pos (by omega), ea, eb, if_neg h, decide_eq_false h, Bool.false_and]
theorem laws_eqIntS.ev (a b : List Int) (hs : a.length ≤ 17592186043904) : Ev (fun k => laws_eqIntS.f k a b) (decide (a = b)) := by
  by_cases hab : a.length = b.length
  · obtain ⟨K, h⟩ := laws_eqIntS.ev0 a b hs hab a.length 0 (by omega)
    dsimp only at h
    refine ⟨K, fun k hk => ?_⟩
    show laws_eqIntS.f k _ _ = _
    unfold laws_eqIntS.f
    rw [if_pos (by omega)]
    exact h k hk
  · refine ⟨0, fun k hk => ?_⟩
    show laws_eqIntS.f k _ _ = _
    unfold laws_eqIntS.f
    rw [if_neg (by omega), decide_eq_false (fun h => hab (by rw [h]))]
theorem FnExactManifestOk : ∀ (l0_0 : List Int) (a0_1 : Int) (a0_2 : Int) (a0_3 : Int) (l0_4 : List Int), (l0_0.length ≤ maxLen ∧ ∀ y ∈ l0_0, (Lit.int .i64 y).wf = true) → ((Lit.int .i64 a0_1).wf = true) → ((Lit.int .i64 a0_2).wf = true) → ((Lit.int .i64 a0_3).wf = true) → (l0_4.length ≤ maxLen ∧ ∀ y ∈ l0_4, (Lit.int .i64 y).wf = true) →
    ∃ k, laws_FnExactManifestOk.f k l0_0 a0_1 a0_2 a0_3 l0_4 = some true := by
  intro l next base bt c hl _ _ _ hc
  unfold maxLen at hl hc
  have e1 : Hd (wrap64 (1048576 - (l.length : Int)) = 1048576 - (l.length : Int)) := Hd.mk <| w64 (by omega) (by omega)
  have e2 : Hd ((l.length : Int) ≤ 1048576 → wrap64 (1048576 - (l.length : Int) - (c.length : Int)) = 1048576 - (l.length : Int) - (c.length : Int)) := Hd.mk fun h => w64 (by omega) (by omega)
  have hsz : laws_szManifest.f l next base bt c 1048576 = some (if (l.length : Int) > 1048576 then -1 else if (l.length : Int) + c.length > 1048576 then -1 else 1048576 - (l.length : Int) - (c.length : Int)) := by
    unfold laws_szManifest.f laws_szIntS.f
    rw [e1.out]
    by_cases h1 : (l.length : Int) > 1048576
    · rw [if_pos (show 1048576 - (l.length : Int) < 0 by omega), Option.bind_some, if_pos (by omega), if_pos h1]
    · rw [if_neg (show ¬ 1048576 - (l.length : Int) < 0 by omega), Option.bind_some, if_neg (by omega), if_neg h1, e2.out (by omega)]
      by_cases h2 : (l.length : Int) + c.length > 1048576
      · rw [if_pos (by omega), Option.bind_some, if_pos (by omega), if_pos h2]
      · rw [if_neg (by omega), Option.bind_some, if_neg (by omega), if_neg h2]
  by_cases h1 : (l.length : Int) > 1048576
  · refine ⟨0, ?_⟩
    unfold laws_FnExactManifestOk.f
    rw [hsz, if_pos h1]
    rfl
  by_cases h2 : (l.length : Int) + c.length > 1048576
  · refine ⟨0, ?_⟩
    unfold laws_FnExactManifestOk.f
    rw [hsz, if_neg h1, if_pos h2]
    rfl
  obtain ⟨K1, k1⟩ := spec_ManifestOk.ev l next base bt c (by omega) (by omega)
  obtain ⟨K2, k2⟩ := impl_ManifestOk.ev l next base bt c (by omega) (by omega)
  obtain ⟨K3, k3⟩ := laws_toIntS.ev l (by omega)
  obtain ⟨K4, k4⟩ := laws_toIntS.ev c (by omega)
  obtain ⟨K5, k5⟩ := laws_eqIntS.ev l l (by omega)
  obtain ⟨K6, k6⟩ := laws_eqIntS.ev c c (by omega)
  dsimp only at k1 k2 k3 k4 k5 k6
  refine ⟨K1 + K2 + K3 + K4 + K5 + K6, ?_⟩
  unfold laws_FnExactManifestOk.f laws_toManifest.f laws_eqManifest.f
  rw [hsz, if_neg h1, if_neg h2, Option.bind_some, if_neg (by omega), k3 _ (by omega), k4 _ (by omega)]
  simp only [Option.bind_some]
  rw [k1 _ (by omega), k2 _ (by omega), k5 _ (by omega), k6 _ (by omega)]
  simp

end Go.Proofs.Ytmdenlpaahlkbaa.Pure
