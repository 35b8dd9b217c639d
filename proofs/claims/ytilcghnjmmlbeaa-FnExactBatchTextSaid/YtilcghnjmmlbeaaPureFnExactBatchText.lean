/- The law FnExactBatchText, over numbers and lists: for every input that the statement speaks of the printed function answers true; conditions: those of the printed statement. -/
import Derived.Test.YtilcghnjmmlbeaaQFnExactBatchTextx1
import Derived.Test.YtilcghnjmmlbeaaQFnExactBatchTextx2
import Derived.Test.YtilcghnjmmlbeaaQFnExactBatchTextx3
import Derived.Test.YtilcghnjmmlbeaaQFnExactBatchTextx4
import Derived.Test.YtilcghnjmmlbeaaQFnExactBatchTextx5
import Derived.Test.YtilcghnjmmlbeaaQFnExactBatchTextx6
import Derived.Laws.BitsAllLaws
namespace Go.Proofs.Ytilcghnjmmlbeaa.Pure
open Go.RowKit Go.Proofs.Ytilcghnjmmlbeaa.QFnExactBatchText Go.Proofs.YtilcghnjmmlbeaaW.PrintWords Go.Proofs.YtilcghnjmmlbeaaW.PrintLast Go.Proofs.YtilcghnjmmlbeaaW.PrintMore
set_option linter.unusedVariables false
set_option linter.unusedSimpArgs false

/-! ### strings as lists of bytes -/
def mk (l : List UInt8) : ByteArray := ⟨l.toArray⟩
def nm (l : List UInt8) : List Int := l.map fun b => (b.toNat : Int)
theorem mk_of (s : ByteArray) : ∃ l, s = mk l := ⟨s.data.toList, rfl⟩
theorem mk_data (l : List UInt8) : (mk l).data.toList = l := rfl
theorem mk_toList (l : List UInt8) : (mk l).toList = l := by rw [ByteArray.toList_eq]; rfl
theorem mk_size (l : List UInt8) : (mk l).size = l.length := List.size_toArray
theorem mk_inj {a b : List UInt8} (h : mk a = mk b) : a = b := by rw [← mk_data a, h]; rfl
theorem mk_append (a b : List UInt8) : mk a ++ mk b = mk (a ++ b) := by
  apply ByteArray.ext
  rw [ByteArray.data_append]
  simp [mk]
theorem mk_extract (l : List UInt8) (i j : Nat) : (mk l).extract i j = mk ((l.drop i).take (j - i)) := by
  apply ByteArray.ext
  rw [ByteArray.data_extract]
  apply Array.ext'
  simp [mk, List.take_drop]
theorem mk_nil : (⟨#[]⟩ : ByteArray) = mk [] := rfl
theorem nm_append (a b : List UInt8) : nm (a ++ b) = nm a ++ nm b := by simp [nm]
theorem nm_length (a : List UInt8) : (nm a).length = a.length := by simp [nm]
theorem nm_nil : ([] : List Int) = nm [] := rfl
theorem strOf_nm (l : List UInt8) : strOfNums (nm l) = mk l := by
  unfold strOfNums nm mk
  rw [List.map_map]
  congr 1
  have : ∀ l : List UInt8, List.map ((fun n : Int => UInt8.ofNat n.toNat) ∘ fun b : UInt8 => (b.toNat : Int)) l = l := by
    intro l
    induction l with
    | nil => rfl
    | cons a l ih => rw [List.map_cons, ih]; simp
  rw [this]
theorem bt_mk (l : List UInt8) (n : Nat) (h : n < l.length) : bt (mk l) (n : Int) = ((l[n]).toNat : Int) := by
  unfold bt
  rw [dif_pos (show (n : Int).toNat < (mk l).size by rw [mk_size]; omega)]
  rfl
/-- A fact that omega doesn't look into. -/
structure Hd (p : Prop) : Prop where
  mk :: (out : p)
theorem w64 {x : Int} (h0 : -9223372036854775808 ≤ x) (h1 : x ≤ 9223372036854775807) : wrap64 x = x := by
  unfold wrap64
  omega
theorem nm_u8 (n : Nat) (h : n < 256) : nm [UInt8.ofNat n] = [(n : Int)] := by
  simp [nm]
  omega
theorem tmod_nat (x d : Nat) : Int.tmod (x : Int) (d : Int) = ((x % d : Nat) : Int) := by
  rw [Int.tmod_eq_emod_of_nonneg (by omega)]
  exact (Int.natCast_emod x d).symm
theorem tdiv_nat (x d : Nat) : Int.tdiv (x : Int) (d : Int) = ((x / d : Nat) : Int) := by
  rw [Int.tdiv_eq_ediv_of_nonneg (by omega)]
  exact (Int.natCast_ediv x d).symm
theorem drop_cons (l : List UInt8) (i : Nat) (h : i < l.length) : l.drop i = l[i] :: l.drop (i + 1) := List.drop_eq_getElem_cons h
/-- C holds at i, i + 1, .., d of them. -/
def allF (C : Nat → Bool) : Nat → Nat → Bool
  | 0, _ => true
  | d + 1, i => C i && allF C d (i + 1)
theorem allF_congr {C D : Nat → Bool} (d : Nat) : ∀ i, (∀ j, i ≤ j → j < i + d → C j = D j) → allF C d i = allF D d i := by
  induction d with
  | zero => intro i h; rfl
  | succ d ih =>
    intro i h
    simp only [allF]
    rw [h i (by omega) (by omega), ih (i + 1) (fun j h1 h2 => h j (by omega) (by omega))]
theorem allF_true {C : Nat → Bool} (d : Nat) : ∀ i, allF C d i = true ↔ ∀ j, i ≤ j → j < i + d → C j = true := by
  induction d with
  | zero => intro i; simp only [allF, true_iff]; intro j h1 h2; omega
  | succ d ih =>
    intro i
    simp only [allF, Bool.and_eq_true, ih]
    constructor
    · rintro ⟨h1, h2⟩ j h3 h4
      by_cases e : j = i
      · rw [e]; exact h1
      · exact h2 j (by omega) (by omega)
    · intro h
      exact ⟨h i (by omega) (by omega), fun j h1 h2 => h j (by omega) (by omega)⟩
theorem ev_now {α : Type} {g : Nat → Option α} {r : α} (h : ∀ k, g (k + 1) = some r) : Ev g r :=
  ⟨1, fun k hk => by obtain ⟨m, rfl⟩ : ∃ m, k = m + 1 := ⟨k - 1, by omega⟩; exact h m⟩
def chC (l : List S96) (i : Nat) : Bool :=
  decide (1 ≤ ((l.getD i z96).f0.size : Int) ∧ ((l.getD i z96).f0.size : Int) ≤ 10) && decide (¬ ((l.getD i z96).f1.size : Int) > 40) &&
    (!(l.getD i z96).f2 || decide ((l.getD i z96).f1.toList = [])) && (decide (i = 0) || Op.bytesLess (l.getD (i - 1) z96).f0.toList (l.getD i z96).f0.toList)
def batchOf (a : Int) (l : List S96) : Bool := decide (0 ≤ a ∧ a ≤ 100000) && decide (¬ (l.length : Int) > 60) && allF (chC l) l.length 0
/-! ### numbers in bytes -/
def vt (n : Nat) : List UInt8 := if h : 127 < n then UInt8.ofNat (n % 128 + 128) :: vt (n / 128) else [UInt8.ofNat n]
termination_by n
decreasing_by omega
theorem vt_big {n : Nat} (h : 127 < n) : vt n = UInt8.ofNat (n % 128 + 128) :: vt (n / 128) := by rw [vt, dif_pos h]
theorem vt_small {n : Nat} (h : n ≤ 127) : vt n = [UInt8.ofNat n] := by rw [vt, dif_neg (by omega)]
theorem vt_len (d : Nat) : ∀ n : Nat, n < 128 * 128 ^ d → 1 ≤ (vt n).length ∧ (vt n).length ≤ d + 1 := by
  induction d with
  | zero => intro n h; rw [vt_small (by omega)]; simp
  | succ d ih =>
    intro n h
    by_cases hn : 127 < n
    · rw [vt_big hn]
      have := ih (n / 128) (by rw [Nat.pow_succ] at h; omega)
      simp only [List.length_cons]
      omega
    · rw [vt_small (by omega)]; simp
theorem vt_len8 {n : Nat} (h : n ≤ 9223372036854775807) : 1 ≤ (vt n).length ∧ (vt n).length ≤ 9 := vt_len 8 n (by omega)
theorem vt_len5 {n : Nat} (h : n ≤ 1000000000) : 1 ≤ (vt n).length ∧ (vt n).length ≤ 5 := vt_len 4 n (by omega)
/-- What VarText answers. -/
def varOf (n : Int) : ByteArray × Bool := if 0 ≤ n ∧ n ≤ 1000000000 then (mk (vt n.toNat), true) else (mk [], false)
def shortOf (l : List UInt8) : ByteArray × Bool := if l.length ≤ 20000 then (mk (vt l.length ++ l), true) else (mk [], false)
def bl (s : ByteArray) : List UInt8 := s.data.toList
theorem mk_bl (s : ByteArray) : mk (bl s) = s := rfl
theorem bl_len (s : ByteArray) : (bl s).length = s.size := rfl
def shT (l : List UInt8) : List UInt8 := vt l.length ++ l
theorem shT_len (l : List UInt8) (h : l.length ≤ 9223372036854775807) : (shT l).length ≤ l.length + 9 := by
  unfold shT
  have := vt_len8 (n := l.length) h
  rw [List.length_append]
  omega
def chT (x : S96) : List UInt8 := shT (bl x.f0) ++ [if x.f2 = true then 1 else 0] ++ shT (bl x.f1)
theorem chT_len (x : S96) (h : x.f0.size ≤ 40 ∧ x.f1.size ≤ 40) : (chT x).length ≤ 200 := by
  unfold chT
  have h1 := shT_len (bl x.f0) (by rw [bl_len]; omega)
  have h2 := shT_len (bl x.f1) (by rw [bl_len]; omega)
  rw [bl_len] at h1 h2
  simp only [List.length_append, List.length_singleton]
  omega
def catC : List S96 → List UInt8
  | [] => []
  | x :: l => chT x ++ catC l
def batchTextOf (a : Int) (l : List S96) : ByteArray × Bool := if batchOf a l = true then (mk (vt a.toNat ++ vt l.length ++ catC l), true) else (mk [], false)
theorem batchOf_small {a : Int} {l : List S96} (h : batchOf a l = true) : (0 ≤ a ∧ a ≤ 100000) ∧ l.length ≤ 60 ∧ ∀ x ∈ l, x.f0.size ≤ 40 ∧ x.f1.size ≤ 40 := by
  unfold batchOf at h
  simp only [Bool.and_eq_true, decide_eq_true_eq] at h
  refine ⟨h.1.1, by omega, fun x hx => ?_⟩
  obtain ⟨i, hi, rfl⟩ := List.getElem_of_mem hx
  have := (allF_true _ _).1 h.2 i (by omega) (by omega)
  unfold chC at this
  simp only [Bool.and_eq_true, decide_eq_true_eq] at this
  have e : l.getD i z96 = l[i] := by simp [List.getD_eq_getElem?_getD, List.getElem?_eq_getElem hi]
  rw [e] at this
  omega
theorem spec_l01Var.ev0 (n : Nat) : ∀ (acc : List UInt8), n ≤ 9223372036854775807 → acc.length + (vt n).length ≤ 100 → Ev (fun k => spec_l01Var.l0 k (n : Int) (nm acc)) (mk (acc ++ vt n)) := by
  induction n using Nat.strongRecOn with
  | ind n ih =>
    intro acc hn hl
    have hal := nm_length acc
    by_cases h : 127 < n
    · have e1 : Int.tmod (n : Int) 128 = ((n % 128 : Nat) : Int) := tmod_nat n 128
      have e2 : Int.tdiv (n : Int) 128 = ((n / 128 : Nat) : Int) := tdiv_nat n 128
      rw [vt_big h] at hl ⊢
      have e3 : [(wrap64 ((Int.tmod (n : Int) 128) + 128)) % 256] = nm [UInt8.ofNat (n % 128 + 128)] := by
        rw [nm_u8 _ (by omega), e1, w64 (by omega) (by omega)]
        congr 1
        omega
      have := ih (n / 128) (by omega) (acc ++ [UInt8.ofNat (n % 128 + 128)]) (by omega) (by simp at hl ⊢; omega)
      rw [List.append_assoc, List.singleton_append] at this
      refine Ev.step (fun k => ?_) this
      show spec_l01Var.l0 (k + 1) _ _ = _
      rw [spec_l01Var.l0, if_pos (by omega), if_pos (by simp at hl; omega), e3, e2, w64 (by omega) (by omega), nm_append]
    · refine ⟨1, fun k hk => ?_⟩
      obtain ⟨k, rfl⟩ : ∃ m, k = m + 1 := ⟨k - 1, by omega⟩
      show spec_l01Var.l0 (k + 1) _ _ = _
      have e3 : [(n : Int) % 256] = nm [UInt8.ofNat n] := by
        rw [nm_u8 _ (by omega)]
        congr 1
        omega
      rw [vt_small (by omega)] at hl ⊢
      rw [spec_l01Var.l0, if_neg (by omega), if_pos (by simp at hl; omega), e3, ← nm_append, strOf_nm]
theorem spec_l05Short.ev (s : ByteArray) (hs : s.size ≤ 1048576) : Ev (fun k => spec_l05Short.f k s) (mk (shT (bl s))) := by
  have hl := vt_len8 (n := s.size) (by omega)
  obtain ⟨K, h⟩ := spec_l01Var.ev0 s.size [] (by omega) (by simp; omega)
  dsimp only at h
  refine ⟨K, fun k hk => ?_⟩
  show spec_l05Short.f k _ = _
  unfold spec_l05Short.f spec_l01Var.f
  rw [nm_nil, h k hk, Option.bind_some, if_pos (by rw [mk_size]; simp only [List.nil_append]; omega)]
  show some (mk (vt s.size) ++ mk (bl s)) = _
  rw [mk_append]
  rfl
theorem loop_all {F : Nat → Nat → Option Bool} {C : Nat → Bool} {n : Nat} {fin : Bool} (step : ∀ k i, i < n → F (k + 1) i = if C i = true then F k (i + 1) else some false)
    (stop : Ev (fun k => F k n) fin) (d : Nat) : ∀ i, i + d = n → Ev (fun k => F k i) (allF C d i && fin) := by
  induction d with
  | zero =>
    intro i hi
    obtain rfl : i = n := by omega
    rw [allF, Bool.true_and]
    exact stop
  | succ d ih =>
    intro i hi
    by_cases hC : C i = true
    · rw [allF, hC, Bool.true_and]
      exact Ev.step (fun k => by rw [step k i (by omega), if_pos hC]) (ih (i + 1) (by omega))
    · rw [allF, Bool.eq_false_iff.2 hC, Bool.false_and, Bool.false_and]
      exact ev_now fun k => by rw [step k i (by omega), if_neg hC]
theorem spec_l01In.is (a lo hi : Int) : spec_l01In.f a lo hi = some (decide (lo ≤ a ∧ a ≤ hi)) := by
  unfold spec_l01In.f
  by_cases h : a ≥ lo
  · rw [if_pos h]
    congr 1
    simp only [decide_eq_decide]
    exact ⟨fun h' => ⟨h, h'⟩, fun h' => h'.2⟩
  · rw [if_neg h, decide_eq_false (fun h' => h h'.1)]
theorem spec_l05Key.is (s : ByteArray) : spec_l05Key.f s = some (decide (1 ≤ (s.size : Int) ∧ (s.size : Int) ≤ 10)) := by
  unfold spec_l05Key.f
  rw [spec_l01In.is, Option.bind_some]
theorem spec_BatchOk.step (a : Int) (l : List S96) (hs : l.length ≤ 1048576) (k i : Nat) (hlt : i < l.length) :
    spec_BatchOk.l0 (k + 1) (i : Int) a l = if chC l i = true then spec_BatchOk.l0 k ((i + 1 : Nat) : Int) a l else some false := by
  have e0 : rd_T96 l (i : Int) = l.getD i z96 := rfl
  have e3 : Hd (wrap64 ((i : Int) + 1) = ((i + 1 : Nat) : Int)) := Hd.mk <| by rw [w64 (by omega) (by omega)]; rfl
  have e2 : Hd (0 < i → wrap64 ((i : Int) - 1) = ((i - 1 : Nat) : Int)) := Hd.mk fun h => by rw [w64 (by omega) (by omega)]; omega
  rw [spec_BatchOk.l0, if_pos (by omega), if_pos (by omega), e0, spec_l05Key.is, Option.bind_some, e3.out]
  by_cases h2 : i = 0
  · rw [if_neg (show ¬ ((i : Int) > 0) by omega)]
    unfold chC
    generalize l.getD i z96 = x
    generalize spec_BatchOk.l0 k ((i + 1 : Nat) : Int) a l = R
    by_cases h1 : 1 ≤ (x.f0.size : Int) ∧ (x.f0.size : Int) ≤ 10 <;> by_cases hv : (x.f1.size : Int) > 40 <;> by_cases hg : x.f2 = true <;> by_cases he : x.f1.toList = [] <;> simp [h1, hv, hg, he, h2]
  · have e1 : rd_T96 l ((i - 1 : Nat) : Int) = l.getD (i - 1) z96 := rfl
    simp only [if_pos (show ((i : Int) > 0) by omega), e2.out (by omega), if_pos (show (0 : Int) ≤ ((i - 1 : Nat) : Int) by omega), if_pos (show ((i - 1 : Nat) : Int) < (l.length : Int) by omega), e1]
    unfold chC
    generalize l.getD i z96 = x
    generalize l.getD (i - 1) z96 = y
    generalize spec_BatchOk.l0 k ((i + 1 : Nat) : Int) a l = R
    by_cases h1 : 1 ≤ (x.f0.size : Int) ∧ (x.f0.size : Int) ≤ 10 <;> by_cases hv : (x.f1.size : Int) > 40 <;> by_cases hg : x.f2 = true <;> by_cases he : x.f1.toList = [] <;> by_cases hb : Op.bytesLess y.f0.toList x.f0.toList = true <;> simp [h1, hv, hg, he, hb, h2]
theorem spec_BatchOk.ev (a : Int) (l : List S96) (hs : l.length ≤ 1048576) : Ev (fun k => spec_BatchOk.f k a l) (batchOf a l) := by
  have stop : Ev (fun k => spec_BatchOk.l0 k ((l.length : Nat) : Int) a l) true := ev_now fun k => by
    show spec_BatchOk.l0 (k + 1) _ _ _ = _
    rw [spec_BatchOk.l0, if_neg (by omega)]
  obtain ⟨K, h⟩ := loop_all (F := fun k i => spec_BatchOk.l0 k (i : Int) a l) (fun k i hi => spec_BatchOk.step a l hs k i hi) stop l.length 0 (by omega)
  dsimp only at h
  unfold batchOf
  by_cases h1 : 0 ≤ a ∧ a ≤ 100000
  · by_cases h2 : (l.length : Int) > 60
    · refine ⟨1, fun k hk => ?_⟩
      obtain ⟨k, rfl⟩ : ∃ m, k = m + 1 := ⟨k - 1, by omega⟩
      show spec_BatchOk.f (k + 1) _ _ = _
      unfold spec_BatchOk.f
      rw [spec_l01In.is, Option.bind_some, decide_eq_true h1, if_pos rfl, decide_eq_true h2, spec_BatchOk.j0, if_pos rfl]
      simp [h2]
    · refine ⟨K + 1, fun k hk => ?_⟩
      obtain ⟨k, rfl⟩ : ∃ m, k = m + 1 := ⟨k - 1, by omega⟩
      show spec_BatchOk.f (k + 1) _ _ = _
      unfold spec_BatchOk.f
      rw [spec_l01In.is, Option.bind_some, decide_eq_true h1, if_pos rfl, decide_eq_false h2, spec_BatchOk.j0, if_neg (by simp), decide_eq_true h2, Bool.true_and, Bool.true_and]
      have := h k (by omega)
      rw [Bool.and_true] at this
      exact this
  · refine ⟨1, fun k hk => ?_⟩
    obtain ⟨k, rfl⟩ : ∃ m, k = m + 1 := ⟨k - 1, by omega⟩
    show spec_BatchOk.f (k + 1) _ _ = _
    unfold spec_BatchOk.f
    rw [spec_l01In.is, Option.bind_some, decide_eq_false h1, if_neg (by simp), spec_BatchOk.j0, if_pos rfl, Bool.false_and, Bool.false_and]
theorem rdI_Change (l : List S96) (n : Nat) (h : n < l.length) : rd_T96 l (n : Int) = l[n] := by
  show l.getD n z96 = _
  simp [List.getD_eq_getElem?_getD, List.getElem?_eq_getElem h]
theorem spec_BatchText.ev0 (a : Int) (l : List S96) (hl : l.length ≤ 60) (hx : ∀ x ∈ l, x.f0.size ≤ 40 ∧ x.f1.size ≤ 40) (d : Nat) : ∀ (i : Nat) (acc : List UInt8), i + d = l.length → acc.length ≤ 200 * i + 100 →
    Ev (fun k => spec_BatchText.l0 k (mk acc) (i : Int) a l) (mk (acc ++ catC (l.drop i)), true) := by
  induction d with
  | zero =>
    intro i acc hi ha
    refine ev_now fun k => ?_
    show spec_BatchText.l0 (k + 1) _ _ _ _ = _
    rw [spec_BatchText.l0, if_neg (by omega), List.drop_eq_nil_of_le (by omega), catC, List.append_nil]
  | succ d ih =>
    intro i acc hi ha
    have hlt : i < l.length := by omega
    have hm := hx l[i] (List.getElem_mem hlt)
    have hc := chT_len l[i] hm
    have hz := hc
    unfold chT at hz
    simp only [List.length_append, List.length_singleton] at hz
    obtain ⟨K1, h1⟩ := spec_l05Short.ev l[i].f0 (by omega)
    obtain ⟨K2, h2⟩ := spec_l05Short.ev l[i].f1 (by omega)
    obtain ⟨K3, h3⟩ := ih (i + 1) (acc ++ chT l[i]) (by omega) (by rw [List.length_append]; omega)
    dsimp only at h1 h2 h3
    refine ⟨K1 + K2 + K3 + 1, fun k hk => ?_⟩
    obtain ⟨k, rfl⟩ : ∃ m, k = m + 1 := ⟨k - 1, by omega⟩
    show spec_BatchText.l0 (k + 1) _ _ _ _ = _
    have h3' := h3 k (by omega)
    rw [List.append_assoc, ← catC, ← List.drop_eq_getElem_cons hlt] at h3'
    have ew : Hd (wrap64 ((i : Int) + 1) = ((i + 1 : Nat) : Int)) := Hd.mk <| by rw [w64 (by omega) (by omega)]; rfl
    have ez : ∀ p q : List UInt8, p.length ≤ 20000 → q.length ≤ 20000 → (mk p).size + (mk q).size ≤ 9223372036854775807 := fun p q hp hq => by rw [mk_size, mk_size]; omega
    have ez1 : ∀ p : List UInt8, p.length ≤ 20000 → (mk p).size + 1 ≤ 9223372036854775807 := fun p hp => by rw [mk_size]; omega
    rw [spec_BatchText.l0, if_pos (by omega), if_pos (by omega), rdI_Change l i hlt, ew.out, h1 k (by omega), h2 k (by omega), show (⟨#[1]⟩ : ByteArray) = mk [1] from rfl, show (⟨#[0]⟩ : ByteArray) = mk [0] from rfl]
    simp only [Option.bind_some, mk_append]
    by_cases hb : l[i].f2 = true
    · rw [if_pos hb, if_pos (ez _ _ (by omega) (by omega)), if_pos (ez1 _ (by rw [List.length_append]; omega)), if_pos (ez _ _ (by simp only [List.length_append, List.length_singleton]; omega) (by omega)), ← h3']
      unfold chT
      rw [if_pos hb]
      simp only [List.append_assoc]
    · rw [if_neg hb, if_pos (ez _ _ (by omega) (by omega)), if_pos (ez1 _ (by rw [List.length_append]; omega)), if_pos (ez _ _ (by simp only [List.length_append, List.length_singleton]; omega) (by omega)), ← h3']
      unfold chT
      rw [if_neg hb]
      simp only [List.append_assoc]
theorem spec_BatchText.ev (a : Int) (l : List S96) (hs : l.length ≤ 1048576) : Ev (fun k => spec_BatchText.f k a l) (batchTextOf a l) := by
  obtain ⟨K0, h0⟩ := spec_BatchOk.ev a l hs
  dsimp only at h0
  unfold batchTextOf
  by_cases hb : batchOf a l = true
  · obtain ⟨ha, hl, hx⟩ := batchOf_small hb
    obtain ⟨n, rfl⟩ := Int.eq_ofNat_of_zero_le ha.1
    have g1 := vt_len8 (n := n) (by omega)
    have g2 := vt_len8 (n := l.length) (by omega)
    obtain ⟨K1, h1⟩ := spec_l01Var.ev0 n [] (by omega) (by simp; omega)
    obtain ⟨K2, h2⟩ := spec_l01Var.ev0 l.length [] (by omega) (by simp; omega)
    obtain ⟨K3, h3⟩ := spec_BatchText.ev0 (n : Int) l hl hx l.length 0 (vt n ++ vt l.length) (by omega) (by rw [List.length_append]; omega)
    dsimp only at h1 h2 h3
    refine ⟨K0 + K1 + K2 + K3, fun k hk => ?_⟩
    show spec_BatchText.f k _ _ = _
    unfold spec_BatchText.f spec_l01Var.f
    rw [h0 k (by omega), Option.bind_some, if_pos hb, nm_nil, h1 k (by omega), Option.bind_some, h2 k (by omega), Option.bind_some, if_pos (by rw [mk_size, mk_size]; simp only [List.nil_append]; omega), mk_append, if_pos hb]
    exact h3 k (by omega)
  · refine ⟨K0, fun k hk => ?_⟩
    show spec_BatchText.f k _ _ = _
    unfold spec_BatchText.f
    rw [h0 k (by omega), Option.bind_some, if_neg hb, if_neg hb]
    rfl
theorem impl_within.is (a lo hi : Int) : impl_within.f a lo hi = some (decide (lo ≤ a ∧ a ≤ hi)) := by
  unfold impl_within.f
  by_cases h : a ≥ lo
  · rw [if_pos h]
    congr 1
    simp only [decide_eq_decide]
    exact ⟨fun h' => ⟨h, h'⟩, fun h' => h'.2⟩
  · rw [if_neg h, decide_eq_false (fun h' => h h'.1)]
theorem impl_VarText.ev0 (n : Nat) : ∀ (acc : List UInt8), n ≤ 9223372036854775807 → acc.length + (vt n).length ≤ 100 → Ev (fun k => impl_VarText.l0 k (n : Int) (nm acc)) (mk (acc ++ vt n), true) := by
  induction n using Nat.strongRecOn with
  | ind n ih =>
    intro acc hn hl
    have hal := nm_length acc
    by_cases h : 127 < n
    · have e1 : Int.tmod (n : Int) 128 = ((n % 128 : Nat) : Int) := tmod_nat n 128
      have e2 : Int.tdiv (n : Int) 128 = ((n / 128 : Nat) : Int) := tdiv_nat n 128
      rw [vt_big h] at hl ⊢
      have e3 : [(wrap64 ((Int.tmod (n : Int) 128) + 128)) % 256] = nm [UInt8.ofNat (n % 128 + 128)] := by
        rw [nm_u8 _ (by omega), e1, w64 (by omega) (by omega)]
        congr 1
        omega
      have := ih (n / 128) (by omega) (acc ++ [UInt8.ofNat (n % 128 + 128)]) (by omega) (by simp at hl ⊢; omega)
      rw [List.append_assoc, List.singleton_append] at this
      refine Ev.step (fun k => ?_) this
      show impl_VarText.l0 (k + 1) _ _ = _
      rw [impl_VarText.l0, if_pos (by omega), if_pos (by simp at hl; omega), e3, e2, w64 (by omega) (by omega), nm_append]
    · refine ⟨1, fun k hk => ?_⟩
      obtain ⟨k, rfl⟩ : ∃ m, k = m + 1 := ⟨k - 1, by omega⟩
      show impl_VarText.l0 (k + 1) _ _ = _
      have e3 : [(n : Int) % 256] = nm [UInt8.ofNat n] := by
        rw [nm_u8 _ (by omega)]
        congr 1
        omega
      rw [vt_small (by omega)] at hl ⊢
      rw [impl_VarText.l0, if_neg (by omega), if_pos (by simp at hl; omega), e3, ← nm_append, strOf_nm]
theorem impl_VarText.ev (n : Int) : Ev (fun k => impl_VarText.f k n) (varOf n) := by
  unfold varOf
  by_cases h : 0 ≤ n ∧ n ≤ 1000000000
  · obtain ⟨m, rfl⟩ := Int.eq_ofNat_of_zero_le h.1
    have hl := vt_len5 (n := m) (by omega)
    obtain ⟨K, hK⟩ := impl_VarText.ev0 m [] (by omega) (by simp; omega)
    dsimp only at hK
    refine ⟨K, fun k hk => ?_⟩
    show impl_VarText.f k _ = _
    unfold impl_VarText.f
    rw [impl_within.is, decide_eq_true h, if_pos h]
    simp only [Option.bind_some, if_true]
    rw [nm_nil, hK k hk]
    rfl
  · refine ⟨0, fun k hk => ?_⟩
    show impl_VarText.f k _ = _
    unfold impl_VarText.f
    rw [impl_within.is, decide_eq_false h, if_neg h]
    rfl
theorem impl_ShortText.ev (l : List UInt8) (hs : l.length ≤ 140737488351232) : Ev (fun k => impl_ShortText.f k (mk l)) (shortOf l) := by
  have hsz := mk_size l
  unfold shortOf
  obtain ⟨K, h⟩ := impl_VarText.ev (l.length : Int)
  dsimp only at h
  refine ⟨K, fun k hk => ?_⟩
  show impl_ShortText.f k _ = _
  unfold impl_ShortText.f
  by_cases hc : l.length ≤ 20000
  · have hl := vt_len5 (n := l.length) (by omega)
    rw [if_neg (by omega), if_pos hc, hsz, h k hk, Option.bind_some]
    unfold varOf
    rw [if_pos (show 0 ≤ (l.length : Int) ∧ (l.length : Int) ≤ 1000000000 by omega)]
    show (if (mk (vt l.length)).size + l.length ≤ 9223372036854775807 then some (mk (vt l.length) ++ mk l, true) else none) = _
    rw [if_pos (by rw [mk_size]; omega), mk_append]
  · rw [if_pos (by omega), if_neg hc]
    rfl
theorem impl_short.ev (s : ByteArray) (hs : s.size ≤ 20000) : Ev (fun k => impl_short.f k s) (mk (shT (bl s))) := by
  obtain ⟨K, h⟩ := impl_ShortText.ev (bl s) (by rw [bl_len]; omega)
  dsimp only at h
  refine ⟨K, fun k hk => ?_⟩
  show impl_short.f k _ = _
  unfold impl_short.f
  have := h k hk
  rw [mk_bl] at this
  rw [this, Option.bind_some]
  unfold shortOf
  rw [if_pos (by rw [bl_len]; omega)]
  rfl
theorem bytesOf_mk (l : List UInt8) : bytesOf (mk l) = nm l := by
  unfold bytesOf nm mk
  simp
theorem impl_vars.two (a b : Nat) (ha : a ≤ 1000000000) (hb : b ≤ 1000000000) : Ev (fun k => impl_vars.f k [(a : Int), (b : Int)]) (mk (vt a ++ vt b), true) := by
  obtain ⟨K1, h1⟩ := impl_VarText.ev (a : Int)
  obtain ⟨K2, h2⟩ := impl_VarText.ev (b : Int)
  dsimp only at h1 h2
  have g1 := vt_len8 (n := a) (by omega)
  have g2 := vt_len8 (n := b) (by omega)
  unfold varOf at h1 h2
  refine ⟨K1 + K2 + 3, fun k hk => ?_⟩
  obtain ⟨k, rfl⟩ : ∃ m, k = m + 3 := ⟨k - 3, by omega⟩
  have h1' := h1 (k + 2) (by omega)
  have h2' := h2 (k + 1) (by omega)
  rw [if_pos (by omega)] at h1' h2'
  show impl_vars.f (k + 3) _ = _
  unfold impl_vars.f
  show impl_vars.l0 (k + 2 + 1) ([] : List Int) [(a : Int), (b : Int)] ((2 : Nat) : Int) 0 = _
  rw [impl_vars.l0, if_pos (by omega), if_pos (by omega), if_pos (by simp), show rd [(a : Int), (b : Int)] 0 = (a : Int) from rfl, h1', Option.bind_some, if_pos rfl, Int.toNat_natCast,
    if_pos (by rw [mk_size]; simp; omega), bytesOf_mk, show wrap64 ((0 : Int) + 1) = 1 from w64 (by omega) (by omega)]
  show impl_vars.l0 (k + 1 + 1) ([] ++ nm (vt a)) [(a : Int), (b : Int)] ((2 : Nat) : Int) 1 = _
  rw [impl_vars.l0, if_pos (by omega), if_pos (by omega), if_pos (by simp), show rd [(a : Int), (b : Int)] 1 = (b : Int) from rfl, h2', Option.bind_some, if_pos rfl, Int.toNat_natCast,
    if_pos (by rw [mk_size]; simp [nm_length]; omega), bytesOf_mk, show wrap64 ((1 : Int) + 1) = 2 from w64 (by omega) (by omega)]
  show impl_vars.l0 (k + 1) ([] ++ nm (vt a) ++ nm (vt b)) [(a : Int), (b : Int)] ((2 : Nat) : Int) 2 = _
  rw [impl_vars.l0, if_neg (by omega), List.nil_append, ← nm_append, strOf_nm]
theorem impl_keyOk.is (s : ByteArray) : impl_keyOk.f s = some (decide (1 ≤ (s.size : Int) ∧ (s.size : Int) ≤ 10)) := by
  unfold impl_keyOk.f
  rw [impl_within.is, Option.bind_some]
theorem impl_BatchOk.step (a : Int) (l : List S96) (hs : l.length ≤ 1048576) (k i : Nat) (hlt : i < l.length) :
    impl_BatchOk.l0 (k + 1) l (l.length : Int) (i : Int) a l = if chC l i = true then impl_BatchOk.l0 k l (l.length : Int) ((i + 1 : Nat) : Int) a l else some false := by
  have e0 : rd_T96 l (i : Int) = l.getD i z96 := rfl
  have e3 : Hd (wrap64 ((i : Int) + 1) = ((i + 1 : Nat) : Int)) := Hd.mk <| by rw [w64 (by omega) (by omega)]; rfl
  have e2 : Hd (0 < i → wrap64 ((i : Int) - 1) = ((i - 1 : Nat) : Int)) := Hd.mk fun h => by rw [w64 (by omega) (by omega)]; omega
  rw [impl_BatchOk.l0, if_pos (by omega), if_pos (by omega), if_pos (by omega), e0, impl_keyOk.is, Option.bind_some, e3.out]
  by_cases h2 : i = 0
  · simp only [if_neg (show ¬ ((i : Int) > 0) by omega)]
    unfold chC
    generalize l.getD i z96 = x
    generalize impl_BatchOk.l0 k l (l.length : Int) ((i + 1 : Nat) : Int) a l = R
    by_cases h1 : 1 ≤ (x.f0.size : Int) ∧ (x.f0.size : Int) ≤ 10 <;> by_cases hv : (x.f1.size : Int) > 40 <;> by_cases hg : x.f2 = true <;> by_cases he : x.f1.toList = [] <;> simp [h1, hv, hg, he, h2]
  · have e1 : rd_T96 l ((i - 1 : Nat) : Int) = l.getD (i - 1) z96 := rfl
    simp only [if_pos (show ((i : Int) > 0) by omega), e2.out (by omega), if_pos (show (0 : Int) ≤ ((i - 1 : Nat) : Int) by omega), if_pos (show ((i - 1 : Nat) : Int) < (l.length : Int) by omega), e1]
    unfold chC
    generalize l.getD i z96 = x
    generalize l.getD (i - 1) z96 = y
    generalize impl_BatchOk.l0 k l (l.length : Int) ((i + 1 : Nat) : Int) a l = R
    by_cases h1 : 1 ≤ (x.f0.size : Int) ∧ (x.f0.size : Int) ≤ 10 <;> by_cases hv : (x.f1.size : Int) > 40 <;> by_cases hg : x.f2 = true <;> by_cases he : x.f1.toList = [] <;> by_cases hb : Op.bytesLess y.f0.toList x.f0.toList = true <;> simp [h1, hv, hg, he, hb, h2]
theorem impl_BatchOk.ev (a : Int) (l : List S96) (hs : l.length ≤ 1048576) : Ev (fun k => impl_BatchOk.f k a l) (batchOf a l) := by
  have stop : Ev (fun k => impl_BatchOk.l0 k l (l.length : Int) ((l.length : Nat) : Int) a l) (decide (0 ≤ a ∧ a ≤ 100000) && decide (¬ (l.length : Int) > 60)) := ev_now fun k => by
    show impl_BatchOk.l0 (k + 1) _ _ _ _ _ = _
    rw [impl_BatchOk.l0, if_neg (by omega), impl_within.is, Option.bind_some]
    by_cases h1 : 0 ≤ a ∧ a ≤ 100000
    · rw [decide_eq_true h1, if_pos rfl, Bool.true_and]
      congr 1
      rw [decide_eq_decide]
      omega
    · rw [decide_eq_false h1, if_neg (by simp), Bool.false_and]
  obtain ⟨K, h⟩ := loop_all (F := fun k i => impl_BatchOk.l0 k l (l.length : Int) (i : Int) a l) (fun k i hi => impl_BatchOk.step a l hs k i hi) stop l.length 0 (by omega)
  dsimp only at h
  unfold batchOf
  rw [Bool.and_comm]
  exact ⟨K, fun k hk => h k hk⟩
theorem impl_flag.is (b : Bool) : impl_flag.f b = some (mk [if b = true then 1 else 0]) := by
  unfold impl_flag.f
  cases b <;> rfl
theorem impl_BatchText.ev0 (l : List S96) (hl : l.length ≤ 60) (hx : ∀ x ∈ l, x.f0.size ≤ 40 ∧ x.f1.size ≤ 40) (d : Nat) : ∀ (i : Nat) (acc : List UInt8), i + d = l.length → acc.length ≤ 200 * i + 100 →
    Ev (fun k => impl_BatchText.l0 k (mk acc) l (l.length : Int) (i : Int)) (mk (acc ++ catC (l.drop i)), true) := by
  induction d with
  | zero =>
    intro i acc hi ha
    refine ev_now fun k => ?_
    show impl_BatchText.l0 (k + 1) _ _ _ _ = _
    rw [impl_BatchText.l0, if_neg (by omega), List.drop_eq_nil_of_le (by omega), catC, List.append_nil]
  | succ d ih =>
    intro i acc hi ha
    have hlt : i < l.length := by omega
    have hm := hx l[i] (List.getElem_mem hlt)
    have hc := chT_len l[i] hm
    have hz := hc
    unfold chT at hz
    simp only [List.length_append, List.length_singleton] at hz
    obtain ⟨K1, h1⟩ := impl_short.ev l[i].f0 (by omega)
    obtain ⟨K2, h2⟩ := impl_short.ev l[i].f1 (by omega)
    obtain ⟨K3, h3⟩ := ih (i + 1) (acc ++ chT l[i]) (by omega) (by rw [List.length_append]; omega)
    dsimp only at h1 h2 h3
    refine ⟨K1 + K2 + K3 + 1, fun k hk => ?_⟩
    obtain ⟨k, rfl⟩ : ∃ m, k = m + 1 := ⟨k - 1, by omega⟩
    show impl_BatchText.l0 (k + 1) _ _ _ _ = _
    have h3' := h3 k (by omega)
    rw [List.append_assoc, ← catC, ← List.drop_eq_getElem_cons hlt] at h3'
    have ew : Hd (wrap64 ((i : Int) + 1) = ((i + 1 : Nat) : Int)) := Hd.mk <| by rw [w64 (by omega) (by omega)]; rfl
    have ez : ∀ p q : List UInt8, p.length ≤ 20000 → q.length ≤ 20000 → (mk p).size + (mk q).size ≤ 9223372036854775807 := fun p q hp hq => by rw [mk_size, mk_size]; omega
    rw [impl_BatchText.l0, if_pos (by omega), if_pos (by omega), if_pos (by omega), rdI_Change l i hlt, ew.out, h1 k (by omega), h2 k (by omega), impl_flag.is]
    simp only [Option.bind_some]
    rw [if_pos (ez _ _ (by omega) (by simp)), mk_append, if_pos (ez _ _ (by simp only [List.length_append, List.length_singleton]; omega) (by omega)), mk_append,
      if_pos (ez _ _ (by omega) (by simp only [List.length_append, List.length_singleton]; omega)), mk_append, ← h3']
    rfl
theorem impl_BatchText.ev (a : Int) (l : List S96) (hs : l.length ≤ 1048576) : Ev (fun k => impl_BatchText.f k a l) (batchTextOf a l) := by
  obtain ⟨K0, h0⟩ := impl_BatchOk.ev a l hs
  dsimp only at h0
  unfold batchTextOf
  by_cases hb : batchOf a l = true
  · obtain ⟨ha, hl, hx⟩ := batchOf_small hb
    obtain ⟨n, rfl⟩ := Int.eq_ofNat_of_zero_le ha.1
    have g1 := vt_len8 (n := n) (by omega)
    have g2 := vt_len8 (n := l.length) (by omega)
    obtain ⟨K1, h1⟩ := impl_vars.two n l.length (by omega) (by omega)
    obtain ⟨K3, h3⟩ := impl_BatchText.ev0 l hl hx l.length 0 (vt n ++ vt l.length) (by omega) (by rw [List.length_append]; omega)
    dsimp only at h1 h3
    refine ⟨K0 + K1 + K3, fun k hk => ?_⟩
    show impl_BatchText.f k _ _ = _
    unfold impl_BatchText.f
    rw [h0 k (by omega), Option.bind_some, if_pos hb, h1 k (by omega), Option.bind_some, if_pos hb]
    exact h3 k (by omega)
  · refine ⟨K0, fun k hk => ?_⟩
    show impl_BatchText.f k _ _ = _
    unfold impl_BatchText.f
    rw [h0 k (by omega), Option.bind_some, if_neg hb, if_neg hb]
    rfl
theorem laws_szChange.is (a0 : ByteArray) (a1 : ByteArray) (a2 : Bool) (n : Int) (h0 : 0 ≤ n) (h1 : n ≤ 1048576) (b0 : a0.size ≤ 9223372036854775807) (b1 : a1.size ≤ 9223372036854775807) : ∃ r, laws_szChange.f a0 a1 a2 n = some r ∧ (0 ≤ r → a0.size ≤ 1048576 ∧ a1.size ≤ 1048576 ∧ r ≤ n) := by
  unfold laws_szChange.f
  rw [w64 (x := n - (a0.size : Int)) (by omega) (by omega)]
  by_cases c0 : n - (a0.size : Int) < 0
  · rw [if_pos c0]; exact ⟨_, rfl, fun h => by omega⟩
  rw [if_neg c0]
  rw [w64 (x := n - (a0.size : Int) - (a1.size : Int)) (by omega) (by omega)]
  by_cases c1 : n - (a0.size : Int) - (a1.size : Int) < 0
  · rw [if_pos c1]; exact ⟨_, rfl, fun h => by omega⟩
  rw [if_neg c1]
  exact ⟨_, rfl, fun h => by omega⟩
theorem rdL_Change (l : List S149) (n : Nat) (h : n < l.length) : rd_T149 l (n : Int) = l[n] := by
  show l.getD n z149 = _
  simp [List.getD_eq_getElem?_getD, List.getElem?_eq_getElem h]
theorem laws_szChangeS.ev0 (l : List S149) (hl : l.length ≤ 1048576) (hw : ∀ x ∈ l, x.f0.size ≤ 9223372036854775807 ∧ x.f1.size ≤ 9223372036854775807) (d : Nat) : ∀ (i : Nat) (n : Int), i + d = l.length → 0 ≤ n → n ≤ 1048576 →
    ∃ r, Ev (fun k => laws_szChangeS.l0 k l n (i : Int)) r ∧ (0 ≤ r → (∀ x ∈ l.drop i, x.f0.size ≤ 1048576 ∧ x.f1.size ≤ 1048576) ∧ r ≤ n) := by
  induction d with
  | zero =>
    intro i n hi h0 h1
    refine ⟨n, ⟨1, fun k hk => ?_⟩, fun _ => ⟨fun x hx => (by rw [List.drop_eq_nil_of_le (by omega)] at hx; cases hx), by omega⟩⟩
    obtain ⟨k, rfl⟩ : ∃ m, k = m + 1 := ⟨k - 1, by omega⟩
    show laws_szChangeS.l0 (k + 1) _ _ _ = _
    rw [laws_szChangeS.l0, if_neg (by omega)]
  | succ d ih =>
    intro i n hi h0 h1
    have hlt : i < l.length := by omega
    have hm := hw l[i] (List.getElem_mem hlt)
    obtain ⟨r, hr, hf⟩ := laws_szChange.is l[i].f0 l[i].f1 l[i].f2 n h0 h1 (by omega) (by omega)
    by_cases hneg : r < 0
    · refine ⟨-1, ⟨1, fun k hk => ?_⟩, fun h => by omega⟩
      obtain ⟨k, rfl⟩ : ∃ m, k = m + 1 := ⟨k - 1, by omega⟩
      show laws_szChangeS.l0 (k + 1) _ _ _ = _
      rw [laws_szChangeS.l0, if_pos (by omega), if_pos (by omega), rdL_Change l i hlt, hr, Option.bind_some, if_pos hneg]
    · have hf' := hf (by omega)
      obtain ⟨r', h', hf2⟩ := ih (i + 1) r (by omega) (by omega) (by omega)
      refine ⟨r', Ev.step (fun k => ?_) h', fun hr' => ⟨fun x hx => ?_, by have := (hf2 hr').2; omega⟩⟩
      · show laws_szChangeS.l0 (k + 1) _ _ _ = laws_szChangeS.l0 k _ _ _
        rw [laws_szChangeS.l0, if_pos (by omega), if_pos (by omega), rdL_Change l i hlt, hr, Option.bind_some, if_neg hneg, w64 (by omega) (by omega)]
        rfl
      · rw [List.drop_eq_getElem_cons hlt] at hx
        rcases List.mem_cons.1 hx with rfl | hx
        · omega
        · exact (hf2 hr').1 x hx
theorem laws_szChangeS.ev (l : List S149) (hl : l.length ≤ 9223372036854775807) (hw : ∀ x ∈ l, x.f0.size ≤ 9223372036854775807 ∧ x.f1.size ≤ 9223372036854775807) (n : Int) (h0 : 0 ≤ n) (h1 : n ≤ 1048576) :
    ∃ r, Ev (fun k => laws_szChangeS.f k l n) r ∧ (0 ≤ r → l.length ≤ 1048576 ∧ (∀ x ∈ l, x.f0.size ≤ 1048576 ∧ x.f1.size ≤ 1048576) ∧ r ≤ n) := by
  have e : Hd (wrap64 (n - (l.length : Int)) = n - (l.length : Int)) := Hd.mk <| w64 (by omega) (by omega)
  by_cases h : n - (l.length : Int) < 0
  · refine ⟨-1, ⟨0, fun k hk => ?_⟩, fun h => by omega⟩
    show laws_szChangeS.f k _ _ = _
    unfold laws_szChangeS.f
    rw [e.out, if_pos h]
  · obtain ⟨r, ⟨K, hK⟩, hf⟩ := laws_szChangeS.ev0 l (by omega) hw l.length 0 (n - (l.length : Int)) (by omega) (by omega) (by omega)
    refine ⟨r, ⟨K, fun k hk => ?_⟩, fun h => ⟨by omega, (hf h).1, by have := (hf h).2; omega⟩⟩
    show laws_szChangeS.f k _ _ = _
    unfold laws_szChangeS.f
    rw [e.out, if_neg h]
    exact hK k hk
def cvChange (x : S149) : S96 := ⟨x.f0, x.f1, x.f2⟩
theorem laws_toChangeS.ev0 (l : List S149) (hs : l.length ≤ 1048576) (d : Nat) : ∀ (i : Nat) (x : List S96), i + d = l.length → x.length = l.length → x.take i = (l.map cvChange).take i →
    Ev (fun k => laws_toChangeS.l0 k l x (i : Int)) (l.map cvChange) := by
  have hml : (l.map cvChange).length = l.length := by simp
  induction d with
  | zero =>
    intro i x hi hx he
    refine ⟨1, fun k hk => ?_⟩
    obtain ⟨k, rfl⟩ : ∃ m, k = m + 1 := ⟨k - 1, by omega⟩
    show laws_toChangeS.l0 (k + 1) _ _ _ = _
    rw [laws_toChangeS.l0, if_neg (by omega)]
    rw [List.take_of_length_le (by omega), List.take_of_length_le (by omega)] at he
    rw [he]
  | succ d ih =>
    intro i x hi hx he
    have hlt : i < l.length := by omega
    refine Ev.step (fun k => ?_) (ih (i + 1) (x.set i (cvChange l[i])) (by omega) (by simp; omega) ?_)
    · show laws_toChangeS.l0 (k + 1) _ _ _ = laws_toChangeS.l0 k _ _ _
      rw [laws_toChangeS.l0, if_pos (by omega), if_pos (by omega), rdL_Change l i hlt]
      unfold laws_toChange.f
      rw [Option.bind_some, if_pos (by omega), w64 (by omega) (by omega)]
      rfl
    · rw [List.take_succ_eq_append_getElem (by simp; omega), List.take_succ_eq_append_getElem (by simp; omega), List.take_set_of_le (by omega), he]
      simp
theorem laws_toChangeS.ev (l : List S149) (hs : l.length ≤ 1048576) : Ev (fun k => laws_toChangeS.f k l) (l.map cvChange) := by
  obtain ⟨K, h⟩ := laws_toChangeS.ev0 l hs l.length 0 (List.replicate l.length z96) (by omega) (by simp) (by simp)
  dsimp only at h
  refine ⟨K, fun k hk => ?_⟩
  show laws_toChangeS.f k _ = _
  unfold laws_toChangeS.f
  rw [if_pos (by omega), if_pos (by omega)]
  exact h k hk
theorem laws_eqChange.refl (a0 : ByteArray) (a1 : ByteArray) (a2 : Bool) : laws_eqChange.f a0 a1 a2 a0 a1 a2 = some true := by
  unfold laws_eqChange.f
  simp
theorem laws_eqChangeS.ev0 (l : List S96) (hs : l.length ≤ 1048576) (d : Nat) : ∀ (i : Nat), i + d = l.length → Ev (fun k => laws_eqChangeS.l0 k l l (i : Int)) true := by
  induction d with
  | zero =>
    intro i hi
    refine ⟨1, fun k hk => ?_⟩
    obtain ⟨k, rfl⟩ : ∃ m, k = m + 1 := ⟨k - 1, by omega⟩
    show laws_eqChangeS.l0 (k + 1) _ _ _ = _
    rw [laws_eqChangeS.l0, if_neg (by omega)]
  | succ d ih =>
    intro i hi
    refine Ev.step (fun k => ?_) (ih (i + 1) (by omega))
    show laws_eqChangeS.l0 (k + 1) _ _ _ = laws_eqChangeS.l0 k _ _ _
    rw [laws_eqChangeS.l0, if_pos (by omega), if_pos (by omega), if_pos (by omega), laws_eqChange.refl, Option.bind_some, if_pos rfl, w64 (by omega) (by omega)]
    rfl
theorem laws_eqChangeS.ev (l : List S96) (hs : l.length ≤ 1048576) : Ev (fun k => laws_eqChangeS.f k l l) true := by
  obtain ⟨K, h⟩ := laws_eqChangeS.ev0 l hs l.length 0 (by omega)
  refine ⟨K, fun k hk => ?_⟩
  show laws_eqChangeS.f k _ _ = _
  unfold laws_eqChangeS.f
  rw [if_pos rfl]
  exact h k hk
theorem FnExactBatchText : ∀ (a0_0 : Int) (l0_1 : List S149), ((Lit.int .i64 a0_0).wf = true) → (l0_1.length ≤ maxLen ∧ ∀ y ∈ l0_1, (y.f0.size ≤ maxLen) ∧ (y.f1.size ≤ maxLen) ∧ (True)) → ∃ k, laws_FnExactBatchText.f k a0_0 l0_1 = some true := by
  intro a l ha hw
  unfold maxLen at hw
  obtain ⟨r, ⟨K0, h0⟩, hf⟩ := laws_szChangeS.ev l hw.1 (fun x hx => ⟨(hw.2 x hx).1, (hw.2 x hx).2.1⟩) 1048576 (by omega) (by omega)
  dsimp only at h0
  by_cases hr : r < 0
  · refine ⟨K0, ?_⟩
    unfold laws_FnExactBatchText.f laws_szBatch.f
    rw [h0 _ (by omega)]
    simp [hr]
  obtain ⟨hl, hsz, _⟩ := hf (by omega)
  have hml : (l.map cvChange).length ≤ 1048576 := by simpa using hl
  obtain ⟨K1, h1⟩ := spec_BatchText.ev a (l.map cvChange) hml
  obtain ⟨K2, h2⟩ := impl_BatchText.ev a (l.map cvChange) hml
  obtain ⟨K3, h3⟩ := laws_toChangeS.ev l hl
  obtain ⟨K4, h4⟩ := laws_eqChangeS.ev (l.map cvChange) hml
  dsimp only at h1 h2 h3 h4
  refine ⟨K0 + K1 + K2 + K3 + K4 + 1, ?_⟩
  unfold laws_FnExactBatchText.f laws_szBatch.f laws_toBatch.f
  rw [h0 _ (by omega), h3 _ (by omega)]
  simp only [Option.bind_some, if_neg hr]
  rw [h1 _ (by omega), h2 _ (by omega)]
  simp only [Option.bind_some, if_true, bne_self_eq_false]
  rw [laws_FnExactBatchText.j0]
  unfold laws_toBatch.f laws_eqBatch.f
  rw [h3 _ (by omega)]
  simp only [Option.bind_some]
  rw [h4 _ (by omega)]
  simp

end Go.Proofs.Ytilcghnjmmlbeaa.Pure
