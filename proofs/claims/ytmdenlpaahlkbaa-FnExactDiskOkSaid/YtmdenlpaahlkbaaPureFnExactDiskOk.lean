/- The law FnExactDiskOk, over numbers and lists: for every input that the statement speaks of the printed function answers true; conditions: those of the printed statement. -/
import Derived.Test.YtmdenlpaahlkbaaQFnExactDiskOkx1
import Derived.Test.YtmdenlpaahlkbaaQFnExactDiskOkx2
import Derived.Test.YtmdenlpaahlkbaaQFnExactDiskOkx3
import Derived.Laws.BitsAllLaws
namespace Go.Proofs.Ytmdenlpaahlkbaa.Pure
open Go.RowKit Go.Proofs.Ytmdenlpaahlkbaa.QFnExactDiskOk Go.Proofs.YtmdenlpaahlkbaaW.PrintWords Go.Proofs.YtmdenlpaahlkbaaW.PrintLast Go.Proofs.YtmdenlpaahlkbaaW.PrintMore
set_option linter.unusedVariables false
set_option linter.unusedSimpArgs false

/-! ### strings as lists of bytes -/
def mk (l : List UInt8) : ByteArray := ⟨l.toArray⟩
def nm (l : List UInt8) : List Int := l.map fun b => (b.toNat : Int)
theorem mk_of (s : ByteArray) : ∃ l, s = mk l := ⟨s.data.toList, rfl⟩
theorem mk_data (l : List UInt8) : (mk l).data.toList = l := rfl
theorem mk_toList (l : List UInt8) : (mk l).toList = l := by rw [ByteArray.toList_eq]; rfl
theorem mk_size (l : List UInt8) : (mk l).size = l.length := List.size_toArray
theorem mk_inj {a b : List UInt8} (h : mk a = mk b) : a = b := by rw [← mk_data a, h]; rfl
theorem mk_append (a b : List UInt8) : mk a ++ mk b = mk (a ++ b) := by
  apply ByteArray.ext
  rw [ByteArray.data_append]
  simp [mk]
theorem mk_extract (l : List UInt8) (i j : Nat) : (mk l).extract i j = mk ((l.drop i).take (j - i)) := by
  apply ByteArray.ext
  rw [ByteArray.data_extract]
  apply Array.ext'
  simp [mk, List.take_drop]
theorem mk_nil : (⟨#[]⟩ : ByteArray) = mk [] := rfl
theorem nm_append (a b : List UInt8) : nm (a ++ b) = nm a ++ nm b := by simp [nm]
theorem nm_length (a : List UInt8) : (nm a).length = a.length := by simp [nm]
theorem nm_nil : ([] : List Int) = nm [] := rfl
theorem strOf_nm (l : List UInt8) : strOfNums (nm l) = mk l := by
  unfold strOfNums nm mk
  rw [List.map_map]
  congr 1
  have : ∀ l : List UInt8, List.map ((fun n : Int => UInt8.ofNat n.toNat) ∘ fun b : UInt8 => (b.toNat : Int)) l = l := by
    intro l
    induction l with
    | nil => rfl
    | cons a l ih => rw [List.map_cons, ih]; simp
  rw [this]
theorem bt_mk (l : List UInt8) (n : Nat) (h : n < l.length) : bt (mk l) (n : Int) = ((l[n]).toNat : Int) := by
  unfold bt
  rw [dif_pos (show (n : Int).toNat < (mk l).size by rw [mk_size]; omega)]
  rfl
/-- A fact that omega doesn't look into. -/
structure Hd (p : Prop) : Prop where
  mk :: (out : p)
theorem w64 {x : Int} (h0 : -9223372036854775808 ≤ x) (h1 : x ≤ 9223372036854775807) : wrap64 x = x := by
  unfold wrap64
  omega
theorem nm_u8 (n : Nat) (h : n < 256) : nm [UInt8.ofNat n] = [(n : Int)] := by
  simp [nm]
  omega
theorem tmod_nat (x d : Nat) : Int.tmod (x : Int) (d : Int) = ((x % d : Nat) : Int) := by
  rw [Int.tmod_eq_emod_of_nonneg (by omega)]
  exact (Int.natCast_emod x d).symm
theorem tdiv_nat (x d : Nat) : Int.tdiv (x : Int) (d : Int) = ((x / d : Nat) : Int) := by
  rw [Int.tdiv_eq_ediv_of_nonneg (by omega)]
  exact (Int.natCast_ediv x d).symm
theorem drop_cons (l : List UInt8) (i : Nat) (h : i < l.length) : l.drop i = l[i] :: l.drop (i + 1) := List.drop_eq_getElem_cons h
/-- C holds at i, i + 1, .., d of them. -/
def allF (C : Nat → Bool) : Nat → Nat → Bool
  | 0, _ => true
  | d + 1, i => C i && allF C d (i + 1)
theorem allF_congr {C D : Nat → Bool} (d : Nat) : ∀ i, (∀ j, i ≤ j → j < i + d → C j = D j) → allF C d i = allF D d i := by
  induction d with
  | zero => intro i h; rfl
  | succ d ih =>
    intro i h
    simp only [allF]
    rw [h i (by omega) (by omega), ih (i + 1) (fun j h1 h2 => h j (by omega) (by omega))]
theorem allF_true {C : Nat → Bool} (d : Nat) : ∀ i, allF C d i = true ↔ ∀ j, i ≤ j → j < i + d → C j = true := by
  induction d with
  | zero => intro i; simp only [allF, true_iff]; intro j h1 h2; omega
  | succ d ih =>
    intro i
    simp only [allF, Bool.and_eq_true, ih]
    constructor
    · rintro ⟨h1, h2⟩ j h3 h4
      by_cases e : j = i
      · rw [e]; exact h1
      · exact h2 j (by omega) (by omega)
    · intro h
      exact ⟨h i (by omega) (by omega), fun j h1 h2 => h j (by omega) (by omega)⟩
theorem ev_now {α : Type} {g : Nat → Option α} {r : α} (h : ∀ k, g (k + 1) = some r) : Ev g r :=
  ⟨1, fun k hk => by obtain ⟨m, rfl⟩ : ∃ m, k = m + 1 := ⟨k - 1, by omega⟩; exact h m⟩
/-- Place i of the list: its name's and its text's sizes, and its name above the one ahead. -/
def diskC (l : List S135) (i : Nat) : Bool :=
  decide (1 ≤ ((l.getD i z135).f0.size : Int) ∧ ((l.getD i z135).f0.size : Int) ≤ 12) && (decide (((l.getD i z135).f1.size : Int) ≤ 20000) && (decide (i = 0) || Op.bytesLess (l.getD (i - 1) z135).f0.toList (l.getD i z135).f0.toList))
def diskCOf (l : List S135) : Bool := decide ((l.length : Int) ≤ 30) && allF (diskC l) l.length 0
theorem spec_l01In.is (a lo hi : Int) : spec_l01In.f a lo hi = some (decide (lo ≤ a ∧ a ≤ hi)) := by
  unfold spec_l01In.f
  by_cases h : a ≥ lo
  · rw [if_pos h]
    congr 1
    simp only [decide_eq_decide]
    exact ⟨fun h' => ⟨h, h'⟩, fun h' => h'.2⟩
  · rw [if_neg h, decide_eq_false (fun h' => h h'.1)]
theorem spec_DiskOk.ev0 (l : List S135) (hs : l.length ≤ 1048576) (d : Nat) : ∀ (i : Nat), i + d = l.length →
    Ev (fun k => spec_DiskOk.l0 k  (i : Int) l) (allF (diskC l) d i) := by
  induction d with
  | zero =>
    intro i hi
    refine ev_now fun k => ?_
    show spec_DiskOk.l0 (k + 1)  _ _ = _
    rw [spec_DiskOk.l0, if_neg (by omega)]
    rfl
  | succ d ih =>
    intro i hi
    have e0 : rd_T135 l (i : Int) = l.getD i z135 := rfl
    by_cases h1 : 1 ≤ ((l.getD i z135).f0.size : Int) ∧ ((l.getD i z135).f0.size : Int) ≤ 12
    · by_cases hv : ((l.getD i z135).f1.size : Int) ≤ 20000
      · by_cases h2 : i = 0
        · have hC : diskC l i = true := by simp only [diskC, decide_eq_true h1, decide_eq_true hv, decide_eq_true h2, Bool.true_or, Bool.and_true]
          simp only [allF, hC, Bool.true_and]
          refine Ev.step (fun k => ?_) (ih (i + 1) (by omega))
          show spec_DiskOk.l0 (k + 1)  _ _ = spec_DiskOk.l0 k  _ _
          rw [spec_DiskOk.l0, if_pos (by omega), if_pos (by omega), e0, spec_l01In.is, decide_eq_true h1]
          simp only [Option.bind_some, if_true]
          rw [if_neg (by omega), if_neg (by omega), w64 (by omega) (by omega)]
          rfl
        · have e2 : Hd (wrap64 ((i : Int) - 1) = ((i - 1 : Nat) : Int)) := Hd.mk <| by rw [w64 (by omega) (by omega)]; omega
          have e1 : rd_T135 l ((i - 1 : Nat) : Int) = l.getD (i - 1) z135 := rfl
          by_cases h3 : Op.bytesLess (l.getD (i - 1) z135).f0.toList (l.getD i z135).f0.toList = true
          · have hC : diskC l i = true := by simp only [diskC, decide_eq_true h1, decide_eq_true hv, h3, Bool.or_true, Bool.and_true]
            simp only [allF, hC, Bool.true_and]
            refine Ev.step (fun k => ?_) (ih (i + 1) (by omega))
            show spec_DiskOk.l0 (k + 1)  _ _ = spec_DiskOk.l0 k  _ _
            rw [spec_DiskOk.l0, if_pos (by omega), if_pos (by omega), e0, spec_l01In.is, decide_eq_true h1]
            simp only [Option.bind_some, if_true]
            rw [if_neg (by omega), if_pos (by omega), e2.out, if_pos (by omega), if_pos (by omega), e1, if_pos h3, w64 (x := (i : Int) + 1) (by omega) (by omega)]
            rfl
          · have hC : diskC l i = false := by simp only [diskC, decide_eq_true h1, decide_eq_true hv, Bool.eq_false_iff.2 h3, decide_eq_false h2, Bool.or_false, Bool.and_false]
            simp only [allF, hC, Bool.false_and]
            refine ev_now fun k => ?_
            show spec_DiskOk.l0 (k + 1)  _ _ = _
            rw [spec_DiskOk.l0, if_pos (by omega), if_pos (by omega), e0, spec_l01In.is, decide_eq_true h1]
            simp only [Option.bind_some, if_true]
            rw [if_neg (by omega), if_pos (by omega), e2.out, if_pos (by omega), if_pos (by omega), e1, if_neg h3]
      · have hC : diskC l i = false := by simp only [diskC, decide_eq_false hv, Bool.false_and, Bool.and_false]
        simp only [allF, hC, Bool.false_and]
        refine ev_now fun k => ?_
        show spec_DiskOk.l0 (k + 1)  _ _ = _
        rw [spec_DiskOk.l0, if_pos (by omega), if_pos (by omega), e0, spec_l01In.is, decide_eq_true h1]
        simp only [Option.bind_some, if_true]
        rw [if_pos (by omega)]
    · have hC : diskC l i = false := by simp only [diskC, decide_eq_false h1, Bool.false_and]
      simp only [allF, hC, Bool.false_and]
      refine ev_now fun k => ?_
      show spec_DiskOk.l0 (k + 1)  _ _ = _
      rw [spec_DiskOk.l0, if_pos (by omega), if_pos (by omega), e0, spec_l01In.is, decide_eq_false h1]
      simp
theorem spec_DiskOk.ev (l : List S135) (hs : l.length ≤ 1048576) : Ev (fun k => spec_DiskOk.f k l) (diskCOf l) := by
  unfold diskCOf
  by_cases hc : (l.length : Int) ≤ 30
  · obtain ⟨K, h⟩ := spec_DiskOk.ev0 l hs l.length 0 (by omega)
    refine ⟨K, fun k hk => ?_⟩
    show spec_DiskOk.f k _ = _
    unfold spec_DiskOk.f
    rw [if_neg (by omega), decide_eq_true hc, Bool.true_and]
    exact h k hk
  · refine ⟨0, fun k hk => ?_⟩
    show spec_DiskOk.f k _ = _
    unfold spec_DiskOk.f
    rw [if_pos (by omega), decide_eq_false hc, Bool.false_and]
theorem impl_within.is (a lo hi : Int) : impl_within.f a lo hi = some (decide (lo ≤ a ∧ a ≤ hi)) := by
  unfold impl_within.f
  by_cases h : a ≥ lo
  · rw [if_pos h]
    congr 1
    simp only [decide_eq_decide]
    exact ⟨fun h' => ⟨h, h'⟩, fun h' => h'.2⟩
  · rw [if_neg h, decide_eq_false (fun h' => h h'.1)]
theorem impl_DiskOk.ev0 (l : List S135) (hs : l.length ≤ 1048576) (d : Nat) : ∀ (i : Nat), i + d = l.length →
    Ev (fun k => impl_DiskOk.l0 k l (l.length : Int) (i : Int) l) (allF (diskC l) d i && decide ((l.length : Int) ≤ 30)) := by
  induction d with
  | zero =>
    intro i hi
    refine ev_now fun k => ?_
    show impl_DiskOk.l0 (k + 1) _ _ _ _ = _
    rw [impl_DiskOk.l0, if_neg (by omega)]
    simp [allF]
  | succ d ih =>
    intro i hi
    have e0 : rd_T135 l (i : Int) = l.getD i z135 := rfl
    by_cases h1 : 1 ≤ ((l.getD i z135).f0.size : Int) ∧ ((l.getD i z135).f0.size : Int) ≤ 12
    · by_cases hv : ((l.getD i z135).f1.size : Int) ≤ 20000
      · by_cases h2 : i = 0
        · have hC : diskC l i = true := by simp only [diskC, decide_eq_true h1, decide_eq_true hv, decide_eq_true h2, Bool.true_or, Bool.and_true]
          simp only [allF, hC, Bool.true_and]
          refine Ev.step (fun k => ?_) (ih (i + 1) (by omega))
          show impl_DiskOk.l0 (k + 1) _ _ _ _ = impl_DiskOk.l0 k _ _ _ _
          rw [impl_DiskOk.l0, if_pos (by omega), if_pos (by omega), if_pos (by omega), e0, impl_within.is, decide_eq_true h1]
          simp only [Option.bind_some, if_true]
          rw [if_neg (by omega), if_neg (by omega), w64 (by omega) (by omega)]
          rfl
        · have e2 : Hd (wrap64 ((i : Int) - 1) = ((i - 1 : Nat) : Int)) := Hd.mk <| by rw [w64 (by omega) (by omega)]; omega
          have e1 : rd_T135 l ((i - 1 : Nat) : Int) = l.getD (i - 1) z135 := rfl
          by_cases h3 : Op.bytesLess (l.getD (i - 1) z135).f0.toList (l.getD i z135).f0.toList = true
          · have hC : diskC l i = true := by simp only [diskC, decide_eq_true h1, decide_eq_true hv, h3, Bool.or_true, Bool.and_true]
            simp only [allF, hC, Bool.true_and]
            refine Ev.step (fun k => ?_) (ih (i + 1) (by omega))
            show impl_DiskOk.l0 (k + 1) _ _ _ _ = impl_DiskOk.l0 k _ _ _ _
            rw [impl_DiskOk.l0, if_pos (by omega), if_pos (by omega), if_pos (by omega), e0, impl_within.is, decide_eq_true h1]
            simp only [Option.bind_some, if_true]
            rw [if_neg (by omega), if_pos (by omega), e2.out, if_pos (by omega), if_pos (by omega), e1, if_pos h3, w64 (x := (i : Int) + 1) (by omega) (by omega)]
            rfl
          · have hC : diskC l i = false := by simp only [diskC, decide_eq_true h1, decide_eq_true hv, Bool.eq_false_iff.2 h3, decide_eq_false h2, Bool.or_false, Bool.and_false]
            simp only [allF, hC, Bool.false_and]
            refine ev_now fun k => ?_
            show impl_DiskOk.l0 (k + 1) _ _ _ _ = _
            rw [impl_DiskOk.l0, if_pos (by omega), if_pos (by omega), if_pos (by omega), e0, impl_within.is, decide_eq_true h1]
            simp only [Option.bind_some, if_true]
            rw [if_neg (by omega), if_pos (by omega), e2.out, if_pos (by omega), if_pos (by omega), e1, if_neg h3]
      · have hC : diskC l i = false := by simp only [diskC, decide_eq_false hv, Bool.false_and, Bool.and_false]
        simp only [allF, hC, Bool.false_and]
        refine ev_now fun k => ?_
        show impl_DiskOk.l0 (k + 1) _ _ _ _ = _
        rw [impl_DiskOk.l0, if_pos (by omega), if_pos (by omega), if_pos (by omega), e0, impl_within.is, decide_eq_true h1]
        simp only [Option.bind_some, if_true]
        rw [if_pos (by omega)]
    · have hC : diskC l i = false := by simp only [diskC, decide_eq_false h1, Bool.false_and]
      simp only [allF, hC, Bool.false_and]
      refine ev_now fun k => ?_
      show impl_DiskOk.l0 (k + 1) _ _ _ _ = _
      rw [impl_DiskOk.l0, if_pos (by omega), if_pos (by omega), if_pos (by omega), e0, impl_within.is, decide_eq_false h1]
      simp
theorem impl_DiskOk.ev (l : List S135) (hs : l.length ≤ 1048576) : Ev (fun k => impl_DiskOk.f k l) (diskCOf l) := by
  unfold diskCOf
  obtain ⟨K, h⟩ := impl_DiskOk.ev0 l hs l.length 0 (by omega)
  rw [Bool.and_comm]
  exact ⟨K, fun k hk => h k hk⟩
theorem laws_szFile.is (a0 : ByteArray) (a1 : ByteArray) (n : Int) (h0 : 0 ≤ n) (h1 : n ≤ 1048576) (b0 : a0.size ≤ 9223372036854775807) (b1 : a1.size ≤ 9223372036854775807) : ∃ r, laws_szFile.f a0 a1 n = some r ∧ (0 ≤ r → a0.size ≤ 1048576 ∧ a1.size ≤ 1048576 ∧ r ≤ n) := by
  unfold laws_szFile.f
  rw [w64 (x := n - (a0.size : Int)) (by omega) (by omega)]
  by_cases c0 : n - (a0.size : Int) < 0
  · rw [if_pos c0]; exact ⟨_, rfl, fun h => by omega⟩
  rw [if_neg c0]
  rw [w64 (x := n - (a0.size : Int) - (a1.size : Int)) (by omega) (by omega)]
  by_cases c1 : n - (a0.size : Int) - (a1.size : Int) < 0
  · rw [if_pos c1]; exact ⟨_, rfl, fun h => by omega⟩
  rw [if_neg c1]
  exact ⟨_, rfl, fun h => by omega⟩
theorem rdL_File (l : List S155) (n : Nat) (h : n < l.length) : rd_T155 l (n : Int) = l[n] := by
  show l.getD n z155 = _
  simp [List.getD_eq_getElem?_getD, List.getElem?_eq_getElem h]
theorem laws_szFileS.ev0 (l : List S155) (hl : l.length ≤ 1048576) (hw : ∀ x ∈ l, x.f0.size ≤ 9223372036854775807 ∧ x.f1.size ≤ 9223372036854775807) (d : Nat) : ∀ (i : Nat) (n : Int), i + d = l.length → 0 ≤ n → n ≤ 1048576 →
    ∃ r, Ev (fun k => laws_szFileS.l0 k l n (i : Int)) r ∧ (0 ≤ r → (∀ x ∈ l.drop i, x.f0.size ≤ 1048576 ∧ x.f1.size ≤ 1048576) ∧ r ≤ n) := by
  induction d with
  | zero =>
    intro i n hi h0 h1
    refine ⟨n, ⟨1, fun k hk => ?_⟩, fun _ => ⟨fun x hx => (by rw [List.drop_eq_nil_of_le (by omega)] at hx; cases hx), by omega⟩⟩
    obtain ⟨k, rfl⟩ : ∃ m, k = m + 1 := ⟨k - 1, by omega⟩
    show laws_szFileS.l0 (k + 1) _ _ _ = _
    rw [laws_szFileS.l0, if_neg (by omega)]
  | succ d ih =>
    intro i n hi h0 h1
    have hlt : i < l.length := by omega
    have hm := hw l[i] (List.getElem_mem hlt)
    obtain ⟨r, hr, hf⟩ := laws_szFile.is l[i].f0 l[i].f1 n h0 h1 (by omega) (by omega)
    by_cases hneg : r < 0
    · refine ⟨-1, ⟨1, fun k hk => ?_⟩, fun h => by omega⟩
      obtain ⟨k, rfl⟩ : ∃ m, k = m + 1 := ⟨k - 1, by omega⟩
      show laws_szFileS.l0 (k + 1) _ _ _ = _
      rw [laws_szFileS.l0, if_pos (by omega), if_pos (by omega), rdL_File l i hlt, hr, Option.bind_some, if_pos hneg]
    · have hf' := hf (by omega)
      obtain ⟨r', h', hf2⟩ := ih (i + 1) r (by omega) (by omega) (by omega)
      refine ⟨r', Ev.step (fun k => ?_) h', fun hr' => ⟨fun x hx => ?_, by have := (hf2 hr').2; omega⟩⟩
      · show laws_szFileS.l0 (k + 1) _ _ _ = laws_szFileS.l0 k _ _ _
        rw [laws_szFileS.l0, if_pos (by omega), if_pos (by omega), rdL_File l i hlt, hr, Option.bind_some, if_neg hneg, w64 (by omega) (by omega)]
        rfl
      · rw [List.drop_eq_getElem_cons hlt] at hx
        rcases List.mem_cons.1 hx with rfl | hx
        · omega
        · exact (hf2 hr').1 x hx
theorem laws_szFileS.ev (l : List S155) (hl : l.length ≤ 9223372036854775807) (hw : ∀ x ∈ l, x.f0.size ≤ 9223372036854775807 ∧ x.f1.size ≤ 9223372036854775807) (n : Int) (h0 : 0 ≤ n) (h1 : n ≤ 1048576) :
    ∃ r, Ev (fun k => laws_szFileS.f k l n) r ∧ (0 ≤ r → l.length ≤ 1048576 ∧ (∀ x ∈ l, x.f0.size ≤ 1048576 ∧ x.f1.size ≤ 1048576) ∧ r ≤ n) := by
  have e : Hd (wrap64 (n - (l.length : Int)) = n - (l.length : Int)) := Hd.mk <| w64 (by omega) (by omega)
  by_cases h : n - (l.length : Int) < 0
  · refine ⟨-1, ⟨0, fun k hk => ?_⟩, fun h => by omega⟩
    show laws_szFileS.f k _ _ = _
    unfold laws_szFileS.f
    rw [e.out, if_pos h]
  · obtain ⟨r, ⟨K, hK⟩, hf⟩ := laws_szFileS.ev0 l (by omega) hw l.length 0 (n - (l.length : Int)) (by omega) (by omega) (by omega)
    refine ⟨r, ⟨K, fun k hk => ?_⟩, fun h => ⟨by omega, (hf h).1, by have := (hf h).2; omega⟩⟩
    show laws_szFileS.f k _ _ = _
    unfold laws_szFileS.f
    rw [e.out, if_neg h]
    exact hK k hk
def cvFile (x : S155) : S135 := ⟨x.f0, x.f1⟩
theorem laws_toFileS.ev0 (l : List S155) (hs : l.length ≤ 1048576) (d : Nat) : ∀ (i : Nat) (x : List S135), i + d = l.length → x.length = l.length → x.take i = (l.map cvFile).take i →
    Ev (fun k => laws_toFileS.l0 k l x (i : Int)) (l.map cvFile) := by
  have hml : (l.map cvFile).length = l.length := by simp
  induction d with
  | zero =>
    intro i x hi hx he
    refine ⟨1, fun k hk => ?_⟩
    obtain ⟨k, rfl⟩ : ∃ m, k = m + 1 := ⟨k - 1, by omega⟩
    show laws_toFileS.l0 (k + 1) _ _ _ = _
    rw [laws_toFileS.l0, if_neg (by omega)]
    rw [List.take_of_length_le (by omega), List.take_of_length_le (by omega)] at he
    rw [he]
  | succ d ih =>
    intro i x hi hx he
    have hlt : i < l.length := by omega
    refine Ev.step (fun k => ?_) (ih (i + 1) (x.set i (cvFile l[i])) (by omega) (by simp; omega) ?_)
    · show laws_toFileS.l0 (k + 1) _ _ _ = laws_toFileS.l0 k _ _ _
      rw [laws_toFileS.l0, if_pos (by omega), if_pos (by omega), rdL_File l i hlt]
      unfold laws_toFile.f
      rw [Option.bind_some, if_pos (by omega), w64 (by omega) (by omega)]
      rfl
    · rw [List.take_succ_eq_append_getElem (by simp; omega), List.take_succ_eq_append_getElem (by simp; omega), List.take_set_of_le (by omega), he]
      simp
theorem laws_toFileS.ev (l : List S155) (hs : l.length ≤ 1048576) : Ev (fun k => laws_toFileS.f k l) (l.map cvFile) := by
  obtain ⟨K, h⟩ := laws_toFileS.ev0 l hs l.length 0 (List.replicate l.length z135) (by omega) (by simp) (by simp)
  dsimp only at h
  refine ⟨K, fun k hk => ?_⟩
  show laws_toFileS.f k _ = _
  unfold laws_toFileS.f
  rw [if_pos (by omega), if_pos (by omega)]
  exact h k hk
theorem laws_eqFile.refl (a0 : ByteArray) (a1 : ByteArray) : laws_eqFile.f a0 a1 a0 a1 = some true := by
  unfold laws_eqFile.f
  simp
theorem laws_eqFileS.ev0 (l : List S135) (hs : l.length ≤ 1048576) (d : Nat) : ∀ (i : Nat), i + d = l.length → Ev (fun k => laws_eqFileS.l0 k l l (i : Int)) true := by
  induction d with
  | zero =>
    intro i hi
    refine ⟨1, fun k hk => ?_⟩
    obtain ⟨k, rfl⟩ : ∃ m, k = m + 1 := ⟨k - 1, by omega⟩
    show laws_eqFileS.l0 (k + 1) _ _ _ = _
    rw [laws_eqFileS.l0, if_neg (by omega)]
  | succ d ih =>
    intro i hi
    refine Ev.step (fun k => ?_) (ih (i + 1) (by omega))
    show laws_eqFileS.l0 (k + 1) _ _ _ = laws_eqFileS.l0 k _ _ _
    rw [laws_eqFileS.l0, if_pos (by omega), if_pos (by omega), if_pos (by omega), laws_eqFile.refl, Option.bind_some, if_pos rfl, w64 (by omega) (by omega)]
    rfl
theorem laws_eqFileS.ev (l : List S135) (hs : l.length ≤ 1048576) : Ev (fun k => laws_eqFileS.f k l l) true := by
  obtain ⟨K, h⟩ := laws_eqFileS.ev0 l hs l.length 0 (by omega)
  refine ⟨K, fun k hk => ?_⟩
  show laws_eqFileS.f k _ _ = _
  unfold laws_eqFileS.f
  rw [if_pos rfl]
  exact h k hk
theorem FnExactDiskOk : ∀ (l0 : List S155), (l0.length ≤ maxLen ∧ ∀ y ∈ l0, (y.f0.size ≤ maxLen) ∧ (y.f1.size ≤ maxLen)) → ∃ k, laws_FnExactDiskOk.f k l0 = some true := by
  intro l hw
  unfold maxLen at hw
  obtain ⟨r, ⟨K0, h0⟩, hf⟩ := laws_szFileS.ev l hw.1 hw.2 1048576 (by omega) (by omega)
  dsimp only at h0
  by_cases hr : r < 0
  · refine ⟨K0, ?_⟩
    unfold laws_FnExactDiskOk.f laws_szDisk.f
    rw [h0 _ (by omega)]
    simp [hr]
  obtain ⟨hl, hsz, _⟩ := hf (by omega)
  have hml : (l.map cvFile).length ≤ 1048576 := by simpa using hl
  obtain ⟨K1, h1⟩ := spec_DiskOk.ev (l.map cvFile) hml
  obtain ⟨K2, h2⟩ := impl_DiskOk.ev (l.map cvFile) hml
  obtain ⟨K3, h3⟩ := laws_toFileS.ev l hl
  obtain ⟨K4, h4⟩ := laws_eqFileS.ev (l.map cvFile) hml
  dsimp only at h1 h2 h3 h4
  refine ⟨K0 + K1 + K2 + K3 + K4, ?_⟩
  unfold laws_FnExactDiskOk.f laws_szDisk.f laws_toDisk.f laws_eqDisk.f
  rw [h0 _ (by omega), h3 _ (by omega)]
  simp only [Option.bind_some, if_neg hr]
  rw [h1 _ (by omega), h2 _ (by omega), h4 _ (by omega)]
  simp

end Go.Proofs.Ytmdenlpaahlkbaa.Pure
