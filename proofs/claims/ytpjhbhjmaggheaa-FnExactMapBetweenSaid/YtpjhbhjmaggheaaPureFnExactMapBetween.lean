/- The law FnExactMapBetween, over numbers and lists: for every input that the statement speaks of the printed function answers true; conditions: those of the printed statement. -/
import Derived.Test.YtpjhbhjmaggheaaQFnExactMapBetweenx1
import Derived.Test.YtpjhbhjmaggheaaQFnExactMapBetweenx2
import Derived.Test.YtpjhbhjmaggheaaQFnExactMapBetweenx3
import Derived.Test.YtpjhbhjmaggheaaQFnExactMapBetweenx4
import Derived.Test.YtpjhbhjmaggheaaQFnExactMapBetweenx5
import Derived.Test.YtpjhbhjmaggheaaQFnExactMapBetweenx6
import Derived.Laws.BitsAllLaws
import Derived.Sort.Walk0
import Derived.Lib.Bytealg
namespace Go.Proofs.Ytpjhbhjmaggheaa.Pure
open Go.RowKit Go.Proofs.Ytpjhbhjmaggheaa.QFnExactMapBetween Go.Proofs.YtpjhbhjmaggheaaW.PrintWords Go.Proofs.YtpjhbhjmaggheaaW.PrintLast Go.Proofs.YtpjhbhjmaggheaaW.PrintMore
set_option linter.unusedVariables false
set_option linter.unusedSimpArgs false

/-! ### strings as lists of bytes -/
def mk (l : List UInt8) : ByteArray := ⟨l.toArray⟩
def nm (l : List UInt8) : List Int := l.map fun b => (b.toNat : Int)
theorem mk_of (s : ByteArray) : ∃ l, s = mk l := ⟨s.data.toList, rfl⟩
theorem mk_data (l : List UInt8) : (mk l).data.toList = l := rfl
theorem mk_toList (l : List UInt8) : (mk l).toList = l := by rw [ByteArray.toList_eq]; rfl
theorem mk_size (l : List UInt8) : (mk l).size = l.length := List.size_toArray
theorem mk_inj {a b : List UInt8} (h : mk a = mk b) : a = b := by rw [← mk_data a, h]; rfl
theorem mk_append (a b : List UInt8) : mk a ++ mk b = mk (a ++ b) := by
  apply ByteArray.ext
  rw [ByteArray.data_append]
  simp [mk]
theorem mk_extract (l : List UInt8) (i j : Nat) : (mk l).extract i j = mk ((l.drop i).take (j - i)) := by
  apply ByteArray.ext
  rw [ByteArray.data_extract]
  apply Array.ext'
  simp [mk, List.take_drop]
theorem mk_nil : (⟨#[]⟩ : ByteArray) = mk [] := rfl
theorem nm_append (a b : List UInt8) : nm (a ++ b) = nm a ++ nm b := by simp [nm]
theorem nm_length (a : List UInt8) : (nm a).length = a.length := by simp [nm]
theorem nm_nil : ([] : List Int) = nm [] := rfl
theorem strOf_nm (l : List UInt8) : strOfNums (nm l) = mk l := by
  unfold strOfNums nm mk
  rw [List.map_map]
  congr 1
  have : ∀ l : List UInt8, List.map ((fun n : Int => UInt8.ofNat n.toNat) ∘ fun b : UInt8 => (b.toNat : Int)) l = l := by
    intro l
    induction l with
    | nil => rfl
    | cons a l ih => rw [List.map_cons, ih]; simp
  rw [this]
theorem bt_mk (l : List UInt8) (n : Nat) (h : n < l.length) : bt (mk l) (n : Int) = ((l[n]).toNat : Int) := by
  unfold bt
  rw [dif_pos (show (n : Int).toNat < (mk l).size by rw [mk_size]; omega)]
  rfl
/-- A fact that omega doesn't look into. -/
structure Hd (p : Prop) : Prop where
  mk :: (out : p)
theorem w64 {x : Int} (h0 : -9223372036854775808 ≤ x) (h1 : x ≤ 9223372036854775807) : wrap64 x = x := by
  unfold wrap64
  omega
theorem nm_u8 (n : Nat) (h : n < 256) : nm [UInt8.ofNat n] = [(n : Int)] := by
  simp [nm]
  omega
theorem tmod_nat (x d : Nat) : Int.tmod (x : Int) (d : Int) = ((x % d : Nat) : Int) := by
  rw [Int.tmod_eq_emod_of_nonneg (by omega)]
  exact (Int.natCast_emod x d).symm
theorem tdiv_nat (x d : Nat) : Int.tdiv (x : Int) (d : Int) = ((x / d : Nat) : Int) := by
  rw [Int.tdiv_eq_ediv_of_nonneg (by omega)]
  exact (Int.natCast_ediv x d).symm
theorem drop_cons (l : List UInt8) (i : Nat) (h : i < l.length) : l.drop i = l[i] :: l.drop (i + 1) := List.drop_eq_getElem_cons h
/-! ### the order of strings -/
theorem bless (a b : List UInt8) : Op.bytesLess a b = decide (a < b) := Proofs.bytesLess_eq a b
theorem cmpB_lt : ∀ a b : List UInt8, Lib.compareBytes a b < 0 ↔ a < b
  | [], [] => by simp [Lib.compareBytes]
  | [], _ :: _ => by simp [Lib.compareBytes]
  | _ :: _, [] => by simp [Lib.compareBytes]
  | a :: xs, b :: ys => by
    rw [List.cons_lt_cons_iff, ← cmpB_lt xs ys, Lib.compareBytes]
    by_cases h : a < b
    · simp [h]
    · by_cases h2 : b < a
      · have : a ≠ b := by rintro rfl; exact h h2
        simp [h, h2, this]
      · have : a = b := UInt8.le_antisymm (UInt8.not_lt.1 h2) (UInt8.not_lt.1 h)
        simp [this]
theorem cmpB_eq : ∀ a b : List UInt8, Lib.compareBytes a b = 0 ↔ a = b
  | [], [] => by simp [Lib.compareBytes]
  | [], _ :: _ => by simp [Lib.compareBytes]
  | _ :: _, [] => by simp [Lib.compareBytes]
  | a :: xs, b :: ys => by
    rw [List.cons_eq_cons, ← cmpB_eq xs ys, Lib.compareBytes]
    by_cases h : a < b
    · have : a ≠ b := by rintro rfl; exact UInt8.lt_irrefl _ h
      simp [h, this]
    · by_cases h2 : b < a
      · have : a ≠ b := by rintro rfl; exact h h2
        simp [h, h2, this]
      · have : a = b := UInt8.le_antisymm (UInt8.not_lt.1 h2) (UInt8.not_lt.1 h)
        simp [this]
theorem bl_trans {a b c : List UInt8} (h1 : a < b) (h2 : b < c) : a < c := List.lt_trans h1 h2
theorem bl_irrefl (a : List UInt8) : ¬ a < a := List.lt_irrefl a
theorem bl_tri (a b : List UInt8) : a < b ∨ a = b ∨ b < a := by
  by_cases h : a < b
  · exact Or.inl h
  · by_cases h2 : b < a
    · exact Or.inr (Or.inr h2)
    · exact Or.inr (Or.inl (List.le_antisymm (List.not_lt.1 h2) (List.not_lt.1 h)))
def bl (s : ByteArray) : List UInt8 := s.data.toList
theorem mk_bl (s : ByteArray) : mk (bl s) = s := rfl
theorem bl_len (s : ByteArray) : (bl s).length = s.size := rfl
theorem bl_inj {a b : ByteArray} (h : bl a = bl b) : a = b := by rw [← mk_bl a, h, mk_bl]
theorem bl_toList (a : ByteArray) : a.toList = bl a := ByteArray.toList_eq a
/-- C holds at i, i + 1, .., d of them. -/
def allF (C : Nat → Bool) : Nat → Nat → Bool
  | 0, _ => true
  | d + 1, i => C i && allF C d (i + 1)
theorem allF_congr {C D : Nat → Bool} (d : Nat) : ∀ i, (∀ j, i ≤ j → j < i + d → C j = D j) → allF C d i = allF D d i := by
  induction d with
  | zero => intro i h; rfl
  | succ d ih =>
    intro i h
    simp only [allF]
    rw [h i (by omega) (by omega), ih (i + 1) (fun j h1 h2 => h j (by omega) (by omega))]
theorem allF_true {C : Nat → Bool} (d : Nat) : ∀ i, allF C d i = true ↔ ∀ j, i ≤ j → j < i + d → C j = true := by
  induction d with
  | zero => intro i; simp only [allF, true_iff]; intro j h1 h2; omega
  | succ d ih =>
    intro i
    simp only [allF, Bool.and_eq_true, ih]
    constructor
    · rintro ⟨h1, h2⟩ j h3 h4
      by_cases e : j = i
      · rw [e]; exact h1
      · exact h2 j (by omega) (by omega)
    · intro h
      exact ⟨h i (by omega) (by omega), fun j h1 h2 => h j (by omega) (by omega)⟩
theorem ev_now {α : Type} {g : Nat → Option α} {r : α} (h : ∀ k, g (k + 1) = some r) : Ev g r :=
  ⟨1, fun k hk => by obtain ⟨m, rfl⟩ : ∃ m, k = m + 1 := ⟨k - 1, by omega⟩; exact h m⟩
/-- Place i of the list: its name's and its text's sizes, and its name above the one ahead. -/
def mapC (l : List S59) (i : Nat) : Bool :=
  decide (1 ≤ ((l.getD i z59).f0.size : Int) ∧ ((l.getD i z59).f0.size : Int) ≤ 10) && (decide (((l.getD i z59).f1.size : Int) ≤ 40) && (decide (i = 0) || Op.bytesLess (l.getD (i - 1) z59).f0.toList (l.getD i z59).f0.toList))
def mapCOf (l : List S59) : Bool := decide ((l.length : Int) ≤ 60) && allF (mapC l) l.length 0
/-- The names rise. -/
def srtMap (l : List S59) : Prop := ∀ i j, i < j → j < l.length → bl (l.getD i z59).f0 < bl (l.getD j z59).f0
theorem mapC_srt {l : List S59} (h : mapCOf l = true) : srtMap l ∧ (l.length : Int) ≤ 60 ∧ ∀ i, i < l.length → (1 ≤ (l.getD i z59).f0.size ∧ (l.getD i z59).f0.size ≤ 10) ∧ (l.getD i z59).f1.size ≤ 40 := by
  unfold mapCOf at h
  simp only [Bool.and_eq_true, decide_eq_true_eq] at h
  have hC : ∀ i, i < l.length → mapC l i = true := fun i hi => (allF_true _ _).1 h.2 i (by omega) (by omega)
  have hadj : ∀ i, 0 < i → i < l.length → bl (l.getD (i - 1) z59).f0 < bl (l.getD i z59).f0 := fun i h0 hi => by
    have := hC i hi
    unfold mapC at this
    simp only [Bool.and_eq_true, Bool.or_eq_true, decide_eq_true_eq] at this
    have h2 := this.2.2.resolve_left (by omega)
    rw [bless, decide_eq_true_eq, ByteArray.toList_eq, ByteArray.toList_eq] at h2
    exact h2
  refine ⟨fun i j hij hj => ?_, h.1, fun i hi => ?_⟩
  · induction j with
    | zero => omega
    | succ j ih =>
      have hA := hadj (j + 1) (by omega) hj
      rw [Nat.add_sub_cancel] at hA
      by_cases e : i = j
      · rw [e]; exact hA
      · exact bl_trans (ih (by omega) (by omega)) hA
  · have := hC i hi
    unfold mapC at this
    simp only [Bool.and_eq_true, decide_eq_true_eq] at this
    omega
/-! ### parts of lists -/
theorem filter_take {α : Type} (p : α → Bool) (l : List α) (c : Nat) (h1 : ∀ t (h : t < l.length), t < c → p l[t] = true) (h2 : ∀ t (h : t < l.length), c ≤ t → p l[t] = false) : l.filter p = l.take c := by
  conv => lhs; rw [← List.take_append_drop c l]
  rw [List.filter_append, List.filter_eq_self.2, List.filter_eq_nil_iff.2, List.append_nil]
  · intro a ha
    obtain ⟨i, hi, rfl⟩ := List.mem_iff_getElem.1 ha
    rw [List.getElem_drop]
    rw [h2 _ _ (by omega)]
    simp
  · intro a ha
    obtain ⟨i, hi, rfl⟩ := List.mem_iff_getElem.1 ha
    rw [List.getElem_take]
    rw [List.length_take] at hi
    exact h1 _ _ (by omega)
theorem filter_drop {α : Type} (p : α → Bool) (l : List α) (c : Nat) (h1 : ∀ t (h : t < l.length), t < c → p l[t] = false) (h2 : ∀ t (h : t < l.length), c ≤ t → p l[t] = true) : l.filter p = l.drop c := by
  conv => lhs; rw [← List.take_append_drop c l]
  rw [List.filter_append, List.filter_eq_nil_iff.2, List.filter_eq_self.2, List.nil_append]
  · intro a ha
    obtain ⟨i, hi, rfl⟩ := List.mem_iff_getElem.1 ha
    rw [List.getElem_drop]
    exact h2 _ _ (by omega)
  · intro a ha
    obtain ⟨i, hi, rfl⟩ := List.mem_iff_getElem.1 ha
    rw [List.getElem_take]
    rw [List.length_take] at hi
    rw [h1 _ _ (by omega)]
    simp
theorem filter_two {α : Type} (p q : α → Bool) (h : ∀ y, p y = true → q y = true → False) : ∀ l : List α, (l.filter p).length + (l.filter q).length ≤ l.length
  | [] => by simp
  | a :: l => by
    have := filter_two p q h l
    rw [List.filter_cons, List.filter_cons]
    by_cases hp : p a = true
    · by_cases hq : q a = true
      · exact absurd hq (fun hq => h a hp hq)
      · rw [if_pos hp, if_neg hq]
        simp only [List.length_cons]
        omega
    · rw [if_neg hp]
      by_cases hq : q a = true
      · rw [if_pos hq]
        simp only [List.length_cons]
        omega
      · rw [if_neg hq]
        simp only [List.length_cons]
        omega
/-- Two rising lists with the same members are one. -/
theorem rise_ext {α : Type} (lt : α → α → Prop) (irr : ∀ a, ¬ lt a a) (tr : ∀ a b c, lt a b → lt b c → lt a c) : ∀ {l m : List α}, l.Pairwise lt → m.Pairwise lt → (∀ x, x ∈ l ↔ x ∈ m) → l = m
  | [], [], _, _, _ => rfl
  | [], b :: m, _, _, h => absurd ((h b).2 List.mem_cons_self) (by simp)
  | a :: l, [], _, _, h => absurd ((h a).1 List.mem_cons_self) (by simp)
  | a :: l, b :: m, hl, hm, h => by
    rw [List.pairwise_cons] at hl hm
    have e : a = b := by
      rcases List.mem_cons.1 ((h a).1 List.mem_cons_self) with e | e
      · exact e
      · rcases List.mem_cons.1 ((h b).2 List.mem_cons_self) with e2 | e2
        · exact e2.symm
        · exact absurd (tr _ _ _ (hl.1 _ e2) (hm.1 _ e)) (irr _)
    subst e
    rw [rise_ext lt irr tr hl.2 hm.2 fun x => ⟨fun hx => ?_, fun hx => ?_⟩]
    · rcases List.mem_cons.1 ((h x).1 (List.mem_cons_of_mem _ hx)) with e | e
      · rw [e] at hx
        exact absurd (hl.1 _ hx) (irr _)
      · exact e
    · rcases List.mem_cons.1 ((h x).2 (List.mem_cons_of_mem _ hx)) with e | e
      · rw [e] at hx
        exact absurd (hm.1 _ hx) (irr _)
      · exact e
/-! ### a name put in, a name taken out: Map -/
def ltMap (x y : S59) : Prop := bl x.f0 < bl y.f0
theorem srtMap_iff (l : List S59) : srtMap l ↔ l.Pairwise ltMap := by
  rw [List.pairwise_iff_getElem]
  have e : ∀ i (h : i < l.length), l.getD i z59 = l[i] := fun i h => by simp [List.getD_eq_getElem?_getD, List.getElem?_eq_getElem h]
  constructor
  · intro h i j hi hj hij
    have := h i j hij hj
    rw [e i hi, e j hj] at this
    exact this
  · intro h i j hij hj
    rw [e i (by omega), e j hj]
    exact h i j (by omega) hj hij
theorem ltMap_irr (a : S59) : ¬ ltMap a a := bl_irrefl _
theorem ltMap_tr (a b c : S59) (h1 : ltMap a b) (h2 : ltMap b c) : ltMap a c := bl_trans h1 h2
theorem extMap {l m : List S59} (hl : srtMap l) (hm : srtMap m) (h : ∀ x, x ∈ l ↔ x ∈ m) : l = m :=
  rise_ext ltMap ltMap_irr ltMap_tr ((srtMap_iff l).1 hl) ((srtMap_iff m).1 hm) h
def putMap (l : List S59) (x : S59) : List S59 := l.filter (fun y => decide (bl y.f0 < bl x.f0)) ++ [x] ++ l.filter (fun y => decide (bl x.f0 < bl y.f0))
def cutMap (l : List S59) (a : ByteArray) : List S59 := l.filter (fun y => decide (y.f0 ≠ a))
theorem mem_putMap (l : List S59) (x y : S59) : y ∈ putMap l x ↔ y = x ∨ (y ∈ l ∧ y.f0 ≠ x.f0) := by
  unfold putMap
  simp only [List.mem_append, List.mem_filter, List.mem_singleton, decide_eq_true_eq]
  constructor
  · rintro ((⟨h1, h2⟩ | h) | ⟨h1, h2⟩)
    · exact Or.inr ⟨h1, fun e => bl_irrefl _ (by rw [e] at h2; exact h2)⟩
    · exact Or.inl h
    · exact Or.inr ⟨h1, fun e => bl_irrefl _ (by rw [e] at h2; exact h2)⟩
  · rintro (h | ⟨h1, h2⟩)
    · exact Or.inl (Or.inr h)
    · rcases bl_tri (bl y.f0) (bl x.f0) with e | e | e
      · exact Or.inl (Or.inl ⟨h1, e⟩)
      · exact absurd (bl_inj e) h2
      · exact Or.inr ⟨h1, e⟩
theorem mem_cutMap (l : List S59) (a : ByteArray) (y : S59) : y ∈ cutMap l a ↔ y ∈ l ∧ y.f0 ≠ a := by
  unfold cutMap
  simp [List.mem_filter]
theorem putMap_srt {l : List S59} (h : srtMap l) (x : S59) : srtMap (putMap l x) := by
  rw [srtMap_iff] at h ⊢
  unfold putMap
  rw [List.pairwise_append, List.pairwise_append]
  refine ⟨⟨h.filter _, List.pairwise_singleton _ _, fun a ha b hb => ?_⟩, h.filter _, fun a ha b hb => ?_⟩
  · rw [List.mem_singleton] at hb
    subst hb
    show bl a.f0 < bl b.f0
    exact of_decide_eq_true (List.mem_filter.1 ha).2
  · have hb := (List.mem_filter.1 hb).2
    rw [decide_eq_true_eq] at hb
    rcases List.mem_append.1 ha with ha | ha
    · have ha := (List.mem_filter.1 ha).2
      rw [decide_eq_true_eq] at ha
      exact bl_trans ha hb
    · rw [List.mem_singleton] at ha
      subst ha
      exact hb
theorem cutMap_srt {l : List S59} (h : srtMap l) (a : ByteArray) : srtMap (cutMap l a) := by
  rw [srtMap_iff] at h ⊢
  exact h.filter _
theorem getI_Map (l : List S59) (i : Nat) (h : i < l.length) : l.getD i z59 = l[i] := by simp [List.getD_eq_getElem?_getD, List.getElem?_eq_getElem h]
theorem putMap_at {l : List S59} (h : srtMap l) (x : S59) (p : Nat) (hp : p < l.length) (he : (l.getD p z59).f0 = x.f0) : putMap l x = l.set p x := by
  have hlt : ∀ t (ht : t < l.length), t < p → bl l[t].f0 < bl x.f0 := fun t ht htp => by
    have := h t p htp hp
    rw [he, getI_Map l t ht] at this
    exact this
  have hgt : ∀ t (ht : t < l.length), p < t → bl x.f0 < bl l[t].f0 := fun t ht htp => by
    have := h p t htp ht
    rw [he, getI_Map l t ht] at this
    exact this
  have heq : bl l[p].f0 = bl x.f0 := by rw [← he, getI_Map l p hp]
  unfold putMap
  have hn1 : ∀ t (ht : t < l.length), p ≤ t → ¬ bl l[t].f0 < bl x.f0 := fun t ht htp hc => by
    by_cases e : t = p
    · subst e
      rw [heq] at hc
      exact bl_irrefl _ hc
    · exact bl_irrefl _ (bl_trans hc (hgt t ht (by omega)))
  have hn2 : ∀ t (ht : t < l.length), t < p + 1 → ¬ bl x.f0 < bl l[t].f0 := fun t ht htp hc => by
    by_cases e : t = p
    · subst e
      rw [heq] at hc
      exact bl_irrefl _ hc
    · exact bl_irrefl _ (bl_trans hc (hlt t ht (by omega)))
  rw [filter_take _ l p (fun t ht htp => decide_eq_true (hlt t ht htp)) (fun t ht htp => decide_eq_false (hn1 t ht htp)),
    filter_drop _ l (p + 1) (fun t ht htp => decide_eq_false (hn2 t ht htp)) (fun t ht htp => decide_eq_true (hgt t ht (by omega))), List.set_eq_take_append_cons_drop, if_pos hp, List.append_assoc, List.singleton_append]
theorem putMap_new {l : List S59} (x : S59) (c : Nat) (hc : c ≤ l.length) (h1 : ∀ t, t < c → bl (l.getD t z59).f0 < bl x.f0) (h2 : ∀ t, c ≤ t → t < l.length → bl x.f0 < bl (l.getD t z59).f0) : putMap l x = l.take c ++ [x] ++ l.drop c := by
  unfold putMap
  have hn1 : ∀ t (ht : t < l.length), c ≤ t → ¬ bl l[t].f0 < bl x.f0 := fun t ht htp hc => by
    rw [← getI_Map l t ht] at hc
    exact bl_irrefl _ (bl_trans hc (h2 t htp ht))
  have hn2 : ∀ t (ht : t < l.length), t < c → ¬ bl x.f0 < bl l[t].f0 := fun t ht htp hc => by
    rw [← getI_Map l t ht] at hc
    exact bl_irrefl _ (bl_trans hc (h1 t htp))
  rw [filter_take _ l c (fun t ht htp => decide_eq_true (by rw [← getI_Map l t ht]; exact h1 t htp)) (fun t ht htp => decide_eq_false (hn1 t ht htp)),
    filter_drop _ l c (fun t ht htp => decide_eq_false (hn2 t ht htp)) (fun t ht htp => decide_eq_true (by rw [← getI_Map l t ht]; exact h2 t htp ht))]
theorem cutMap_at {l : List S59} (h : srtMap l) (a : ByteArray) (p : Nat) (hp : p < l.length) (he : (l.getD p z59).f0 = a) : cutMap l a = l.eraseIdx p := by
  refine extMap (cutMap_srt h a) ?_ fun x => ?_
  · rw [srtMap_iff] at h ⊢
    exact h.sublist (List.eraseIdx_sublist _ _)
  · rw [mem_cutMap, List.mem_eraseIdx_iff_getElem]
    rw [getI_Map l p hp] at he
    constructor
    · rintro ⟨h1, h2⟩
      obtain ⟨i, hi, rfl⟩ := List.mem_iff_getElem.1 h1
      exact ⟨i, hi, fun e => h2 (by subst e; exact he), rfl⟩
    · rintro ⟨i, hi, hne, rfl⟩
      refine ⟨List.getElem_mem hi, fun e => ?_⟩
      have e2 : bl l[i].f0 = bl l[p].f0 := by rw [e, he]
      rcases Nat.lt_or_gt_of_ne hne with hlt | hlt
      · have := h i p hlt hp
        rw [getI_Map l p hp, getI_Map l i hi, e2] at this
        exact bl_irrefl _ this
      · have := h p i hlt hi
        rw [getI_Map l p hp, getI_Map l i hi, e2] at this
        exact bl_irrefl _ this
theorem cutMap_none {l : List S59} (a : ByteArray) (hn : ∀ p, p < l.length → (l.getD p z59).f0 ≠ a) : cutMap l a = l := by
  unfold cutMap
  refine List.filter_eq_self.2 fun x hx => ?_
  obtain ⟨i, hi, rfl⟩ := List.mem_iff_getElem.1 hx
  have := hn i hi
  rw [getI_Map l i hi] at this
  simpa using this
/-- The first place from i on with a's name; -1. -/
def posMap (l : List S59) (a : ByteArray) : Nat → Nat → Int
  | 0, _ => -1
  | d + 1, i => if (l.getD i z59).f0 = a then (i : Int) else posMap l a d (i + 1)
theorem posMap_cases (l : List S59) (a : ByteArray) (d : Nat) : ∀ i, (∃ p, i ≤ p ∧ p < i + d ∧ (l.getD p z59).f0 = a ∧ posMap l a d i = (p : Int)) ∨ ((∀ p, i ≤ p → p < i + d → (l.getD p z59).f0 ≠ a) ∧ posMap l a d i = -1) := by
  induction d with
  | zero => exact fun i => Or.inr ⟨fun p h1 h2 => by omega, rfl⟩
  | succ d ih =>
    intro i
    by_cases e : (l.getD i z59).f0 = a
    · exact Or.inl ⟨i, by omega, by omega, e, by rw [posMap, if_pos e]⟩
    · rcases ih (i + 1) with ⟨p, h1, h2, h3, h4⟩ | ⟨h1, h2⟩
      · exact Or.inl ⟨p, by omega, by omega, h3, by rw [posMap, if_neg e, h4]⟩
      · refine Or.inr ⟨fun p h3 h4 => ?_, by rw [posMap, if_neg e, h2]⟩
        by_cases ep : p = i
        · rw [ep]; exact e
        · exact h1 p (by omega) (by omega)
theorem rdI_Pair (l : List S59) (n : Nat) (h : n < l.length) : rd_T59 l (n : Int) = l[n] := by
  show l.getD n z59 = _
  simp [List.getD_eq_getElem?_getD, List.getElem?_eq_getElem h]
theorem rdI_Change (l : List S109) (n : Nat) (h : n < l.length) : rd_T109 l (n : Int) = l[n] := by
  show l.getD n z109 = _
  simp [List.getD_eq_getElem?_getD, List.getElem?_eq_getElem h]
theorem tl_eq {a b : ByteArray} : a.toList = b.toList ↔ a = b := ⟨fun h => by rw [bl_toList, bl_toList] at h; exact bl_inj h, fun h => by rw [h]⟩
/-! ### what differs between two maps -/
def goneC (p : S59) : S109 := ⟨p.f0, ⟨#[]⟩, true⟩
def newC (p : S59) : S109 := ⟨p.f0, p.f1, false⟩
def ltC (x y : S109) : Prop := bl x.f0 < bl y.f0
/-- The two maps run through side by side. -/
def mrg : List S59 → List S59 → List S109
  | [], b => b.map newC
  | p :: a, [] => (p :: a).map goneC
  | p :: a, q :: b =>
    if bl p.f0 < bl q.f0 then goneC p :: mrg a (q :: b)
    else if bl q.f0 < bl p.f0 then newC q :: mrg (p :: a) b
    else if p.f1 = q.f1 then mrg a b else newC q :: mrg a b
termination_by a b => a.length + b.length
theorem pair_eq {p q : S59} (h0 : p.f0 = q.f0) (h1 : p.f1 = q.f1) : p = q := by
  cases p; cases q; simp only at h0 h1; rw [h0, h1]
theorem mrg_mem (n : Nat) : ∀ (a b : List S59), a.length + b.length ≤ n → a.Pairwise ltMap → b.Pairwise ltMap → ∀ x, x ∈ mrg a b ↔ (∃ p, p ∈ a ∧ x = goneC p ∧ ∀ q, q ∈ b → q.f0 ≠ p.f0) ∨ (∃ q, q ∈ b ∧ x = newC q ∧ q ∉ a) := by
  induction n with
  | zero =>
    intro a b hn ha hb x
    have h1 : a = [] := List.eq_nil_of_length_eq_zero (by omega)
    have h2 : b = [] := List.eq_nil_of_length_eq_zero (by omega)
    subst h1 h2
    rw [mrg]
    simp
  | succ n ih =>
    intro a b hn ha hb x
    cases a with
    | nil =>
      rw [mrg, List.mem_map]
      constructor
      · rintro ⟨q, hq, rfl⟩
        exact Or.inr ⟨q, hq, rfl, by simp⟩
      · rintro (⟨p, hp, _⟩ | ⟨q, hq, rfl, _⟩)
        · cases hp
        · exact ⟨q, hq, rfl⟩
    | cons p a =>
      cases b with
      | nil =>
        rw [mrg, List.mem_map]
        constructor
        · rintro ⟨q, hq, rfl⟩
          exact Or.inl ⟨q, hq, rfl, fun q hq => by cases hq⟩
        · rintro (⟨p, hp, rfl, _⟩ | ⟨q, hq, _⟩)
          · exact ⟨p, hp, rfl⟩
          · cases hq
      | cons q b =>
        rw [List.pairwise_cons] at ha hb
        simp only [List.length_cons] at hn
        have ha' : (p :: a).Pairwise ltMap := List.pairwise_cons.2 ha
        have hb' : (q :: b).Pairwise ltMap := List.pairwise_cons.2 hb
        rw [mrg]
        by_cases h1 : bl p.f0 < bl q.f0
        · have hpq : ∀ q', q' ∈ q :: b → bl p.f0 < bl q'.f0 := fun q' hq' => by
            rcases List.mem_cons.1 hq' with rfl | hq'
            · exact h1
            · exact bl_trans h1 (hb.1 _ hq')
          have hne : ∀ q', q' ∈ q :: b → q'.f0 ≠ p.f0 := fun q' hq' e => bl_irrefl _ (by have := hpq q' hq'; rw [e] at this; exact this)
          rw [if_pos h1, List.mem_cons, ih a (q :: b) (by simp only [List.length_cons]; omega) ha.2 hb' x]
          constructor
          · rintro (rfl | ⟨p', hp', h⟩ | ⟨q', hq', rfl, h⟩)
            · exact Or.inl ⟨p, List.mem_cons_self, rfl, hne⟩
            · exact Or.inl ⟨p', List.mem_cons_of_mem _ hp', h⟩
            · refine Or.inr ⟨q', hq', rfl, fun hm => ?_⟩
              rcases List.mem_cons.1 hm with rfl | hm
              · exact hne _ hq' rfl
              · exact h hm
          · rintro (⟨p', hp', rfl, h⟩ | ⟨q', hq', rfl, h⟩)
            · rcases List.mem_cons.1 hp' with rfl | hp'
              · exact Or.inl rfl
              · exact Or.inr (Or.inl ⟨p', hp', rfl, h⟩)
            · exact Or.inr (Or.inr ⟨q', hq', rfl, fun hm => h (List.mem_cons_of_mem _ hm)⟩)
        · rw [if_neg h1]
          by_cases h2 : bl q.f0 < bl p.f0
          · have hqp : ∀ p', p' ∈ p :: a → bl q.f0 < bl p'.f0 := fun p' hp' => by
              rcases List.mem_cons.1 hp' with rfl | hp'
              · exact h2
              · exact bl_trans h2 (ha.1 _ hp')
            have hne : ∀ p', p' ∈ p :: a → q.f0 ≠ p'.f0 := fun p' hp' e => bl_irrefl _ (by have := hqp p' hp'; rw [e] at this; exact this)
            rw [if_pos h2, List.mem_cons, ih (p :: a) b (by simp only [List.length_cons]; omega) ha' hb.2 x]
            constructor
            · rintro (rfl | ⟨p', hp', rfl, h⟩ | ⟨q', hq', h⟩)
              · exact Or.inr ⟨q, List.mem_cons_self, rfl, fun hm => hne _ hm rfl⟩
              · refine Or.inl ⟨p', hp', rfl, fun q' hq' => ?_⟩
                rcases List.mem_cons.1 hq' with rfl | hq'
                · exact hne _ hp'
                · exact h _ hq'
              · exact Or.inr ⟨q', List.mem_cons_of_mem _ hq', h⟩
            · rintro (⟨p', hp', rfl, h⟩ | ⟨q', hq', rfl, h⟩)
              · exact Or.inr (Or.inl ⟨p', hp', rfl, fun q' hq' => h q' (List.mem_cons_of_mem _ hq')⟩)
              · rcases List.mem_cons.1 hq' with rfl | hq'
                · exact Or.inl rfl
                · exact Or.inr (Or.inr ⟨q', hq', rfl, h⟩)
          · have hk : p.f0 = q.f0 := by
              rcases bl_tri (bl p.f0) (bl q.f0) with e | e | e
              · exact absurd e h1
              · exact bl_inj e
              · exact absurd e h2
            have hna : ∀ p', p' ∈ a → p'.f0 ≠ q.f0 := fun p' hp' e => bl_irrefl (bl p.f0) (by have : bl p.f0 < bl p'.f0 := ha.1 _ hp'; rw [e, ← hk] at this; exact this)
            have hnb : ∀ q', q' ∈ b → q'.f0 ≠ p.f0 := fun q' hq' e => bl_irrefl (bl q.f0) (by have : bl q.f0 < bl q'.f0 := hb.1 _ hq'; rw [e, hk] at this; exact this)
            have hih := ih a b (by omega) ha.2 hb.2 x
            rw [if_neg h2]
            have key : (∃ p', p' ∈ p :: a ∧ x = goneC p' ∧ ∀ q', q' ∈ q :: b → q'.f0 ≠ p'.f0) ∨ (∃ q', q' ∈ q :: b ∧ x = newC q' ∧ q' ∉ p :: a) ↔ (x = newC q ∧ p.f1 ≠ q.f1) ∨ x ∈ mrg a b := by
              rw [hih]
              constructor
              · rintro (⟨p', hp', rfl, h⟩ | ⟨q', hq', rfl, h⟩)
                · rcases List.mem_cons.1 hp' with rfl | hp'
                  · exact absurd hk.symm (h q List.mem_cons_self)
                  · exact Or.inr (Or.inl ⟨p', hp', rfl, fun q' hq' => h q' (List.mem_cons_of_mem _ hq')⟩)
                · rcases List.mem_cons.1 hq' with rfl | hq'
                  · exact Or.inl ⟨rfl, fun e => h (by rw [pair_eq hk e]; exact List.mem_cons_self)⟩
                  · exact Or.inr (Or.inr ⟨q', hq', rfl, fun hm => h (List.mem_cons_of_mem _ hm)⟩)
              · rintro (⟨rfl, hv⟩ | ⟨p', hp', rfl, h⟩ | ⟨q', hq', rfl, h⟩)
                · refine Or.inr ⟨q, List.mem_cons_self, rfl, fun hm => ?_⟩
                  rcases List.mem_cons.1 hm with e | hm
                  · exact hv (by rw [e])
                  · exact hna _ hm rfl
                · refine Or.inl ⟨p', List.mem_cons_of_mem _ hp', rfl, fun q' hq' => ?_⟩
                  rcases List.mem_cons.1 hq' with rfl | hq'
                  · exact fun e => hna _ hp' e.symm
                  · exact h _ hq'
                · refine Or.inr ⟨q', List.mem_cons_of_mem _ hq', rfl, fun hm => ?_⟩
                  rcases List.mem_cons.1 hm with e | hm
                  · exact hnb _ hq' (by rw [e])
                  · exact h hm
            rw [key]
            by_cases hv : p.f1 = q.f1
            · rw [if_pos hv]
              constructor
              · exact Or.inr
              · rintro (⟨_, h⟩ | h)
                · exact absurd hv h
                · exact h
            · rw [if_neg hv, List.mem_cons]
              constructor
              · rintro (h | h)
                · exact Or.inl ⟨h, hv⟩
                · exact Or.inr h
              · rintro (⟨h, _⟩ | h)
                · exact Or.inl h
                · exact Or.inr h
theorem mrg_key {a b : List S59} (ha : a.Pairwise ltMap) (hb : b.Pairwise ltMap) {x : S109} (h : x ∈ mrg a b) : (∃ p, p ∈ a ∧ x.f0 = p.f0) ∨ (∃ q, q ∈ b ∧ x.f0 = q.f0) := by
  rcases (mrg_mem _ a b (Nat.le_refl _) ha hb x).1 h with ⟨p, hp, rfl, _⟩ | ⟨q, hq, rfl, _⟩
  · exact Or.inl ⟨p, hp, rfl⟩
  · exact Or.inr ⟨q, hq, rfl⟩
theorem mrg_srt (n : Nat) : ∀ (a b : List S59), a.length + b.length ≤ n → a.Pairwise ltMap → b.Pairwise ltMap → (mrg a b).Pairwise ltC := by
  induction n with
  | zero =>
    intro a b hn ha hb
    have h1 : a = [] := List.eq_nil_of_length_eq_zero (by omega)
    have h2 : b = [] := List.eq_nil_of_length_eq_zero (by omega)
    subst h1 h2
    rw [mrg]
    exact List.Pairwise.nil
  | succ n ih =>
    intro a b hn ha hb
    cases a with
    | nil =>
      rw [mrg, List.pairwise_map]
      exact hb
    | cons p a =>
      cases b with
      | nil =>
        rw [mrg, List.pairwise_map]
        exact ha
      | cons q b =>
        have ha' := ha
        have hb' := hb
        rw [List.pairwise_cons] at ha hb
        simp only [List.length_cons] at hn
        have low : ∀ (k : List UInt8) (a b : List S59), a.Pairwise ltMap → b.Pairwise ltMap → (∀ p, p ∈ a → k < bl p.f0) → (∀ q, q ∈ b → k < bl q.f0) → ∀ x, x ∈ mrg a b → k < bl x.f0 := fun k a b ha hb h1 h2 x hx => by
          rcases mrg_key ha hb hx with ⟨p, hp, e⟩ | ⟨q, hq, e⟩
          · rw [e]; exact h1 p hp
          · rw [e]; exact h2 q hq
        rw [mrg]
        by_cases h1 : bl p.f0 < bl q.f0
        · rw [if_pos h1, List.pairwise_cons]
          refine ⟨low _ _ _ ha.2 hb' (fun p' hp' => ha.1 _ hp') (fun q' hq' => ?_), ih _ _ (by simp only [List.length_cons]; omega) ha.2 hb'⟩
          rcases List.mem_cons.1 hq' with rfl | hq'
          · exact h1
          · exact bl_trans h1 (hb.1 _ hq')
        · rw [if_neg h1]
          by_cases h2 : bl q.f0 < bl p.f0
          · rw [if_pos h2, List.pairwise_cons]
            refine ⟨low _ _ _ ha' hb.2 (fun p' hp' => ?_) (fun q' hq' => hb.1 _ hq'), ih _ _ (by simp only [List.length_cons]; omega) ha' hb.2⟩
            rcases List.mem_cons.1 hp' with rfl | hp'
            · exact h2
            · exact bl_trans h2 (ha.1 _ hp')
          · rw [if_neg h2]
            have hk : bl p.f0 = bl q.f0 := by
              rcases bl_tri (bl p.f0) (bl q.f0) with e | e | e
              · exact absurd e h1
              · exact e
              · exact absurd e h2
            have hr := ih a b (by omega) ha.2 hb.2
            by_cases hv : p.f1 = q.f1
            · rw [if_pos hv]; exact hr
            · rw [if_neg hv, List.pairwise_cons]
              exact ⟨low _ _ _ ha.2 hb.2 (fun p' hp' => by have : bl p.f0 < bl p'.f0 := ha.1 _ hp'; rw [hk] at this; exact this) (fun q' hq' => hb.1 _ hq'), hr⟩
/-- What the program lists, before it is put in order. -/
def goneL (b : List S59) (a : List S59) : List S109 := (a.filter fun p => !b.any fun q => decide (q.f0 = p.f0)).map goneC
def newL (a : List S59) (b : List S59) : List S109 := (b.filter fun q => !a.any fun p => decide (p.f0 = q.f0) && decide (p.f1 = q.f1)).map newC
theorem mem_goneL (a b : List S59) (x : S109) : x ∈ goneL b a ↔ ∃ p, p ∈ a ∧ x = goneC p ∧ ∀ q, q ∈ b → q.f0 ≠ p.f0 := by
  unfold goneL
  rw [List.mem_map]
  constructor
  · rintro ⟨p, hp, rfl⟩
    obtain ⟨h1, h2⟩ := List.mem_filter.1 hp
    refine ⟨p, h1, rfl, fun q hq e => ?_⟩
    rw [Bool.not_eq_true', List.any_eq_false] at h2
    exact h2 q hq (decide_eq_true e)
  · rintro ⟨p, hp, rfl, h⟩
    refine ⟨p, List.mem_filter.2 ⟨hp, ?_⟩, rfl⟩
    rw [Bool.not_eq_true', List.any_eq_false]
    exact fun q hq e => h q hq (of_decide_eq_true e)
theorem mem_newL (a b : List S59) (x : S109) : x ∈ newL a b ↔ ∃ q, q ∈ b ∧ x = newC q ∧ q ∉ a := by
  unfold newL
  rw [List.mem_map]
  constructor
  · rintro ⟨q, hq, rfl⟩
    obtain ⟨h1, h2⟩ := List.mem_filter.1 hq
    refine ⟨q, h1, rfl, fun hm => ?_⟩
    rw [Bool.not_eq_true', List.any_eq_false] at h2
    exact h2 q hm (by simp)
  · rintro ⟨q, hq, rfl, h⟩
    refine ⟨q, List.mem_filter.2 ⟨hq, ?_⟩, rfl⟩
    rw [Bool.not_eq_true', List.any_eq_false]
    intro p hp e
    simp only [Bool.and_eq_true, decide_eq_true_eq] at e
    exact h (by rw [← pair_eq e.1 e.2]; exact hp)
def chg (a b : List S59) : List S109 := goneL b a ++ newL a b
theorem chg_len (a b : List S59) : (chg a b).length ≤ a.length + b.length := by
  unfold chg goneL newL
  rw [List.length_append, List.length_map, List.length_map]
  have h1 := List.length_filter_le (fun p : S59 => !b.any fun q => decide (q.f0 = p.f0)) a
  have h2 := List.length_filter_le (fun q : S59 => !a.any fun p => decide (p.f0 = q.f0) && decide (p.f1 = q.f1)) b
  omega
theorem ltMap_ne {p q : S59} (h : ltMap p q) : p.f0 ≠ q.f0 := fun e => bl_irrefl (bl q.f0) (by have : bl p.f0 < bl q.f0 := h; rw [e] at this; exact this)
theorem chg_ne {a b : List S59} (ha : a.Pairwise ltMap) (hb : b.Pairwise ltMap) : (chg a b).Pairwise (fun x y => x.f0 ≠ y.f0) := by
  unfold chg
  rw [List.pairwise_append]
  refine ⟨?_, ?_, fun x hx y hy => ?_⟩
  · unfold goneL
    rw [List.pairwise_map]
    exact (ha.filter _).imp ltMap_ne
  · unfold newL
    rw [List.pairwise_map]
    exact (hb.filter _).imp ltMap_ne
  · obtain ⟨p, hp, rfl, h⟩ := (mem_goneL a b x).1 hx
    obtain ⟨q, hq, rfl, _⟩ := (mem_newL a b y).1 hy
    exact fun e => h q hq e.symm
theorem pw_inj {l : List S109} (h : l.Pairwise (fun x y => x.f0 ≠ y.f0)) : ∀ x, x ∈ l → ∀ y, y ∈ l → x.f0 = y.f0 → x = y := by
  induction l with
  | nil => intro x hx; cases hx
  | cons a l ih =>
    rw [List.pairwise_cons] at h
    intro x hx y hy e
    rcases List.mem_cons.1 hx with e1 | hx2
    · rcases List.mem_cons.1 hy with e2 | hy2
      · rw [e1, e2]
      · rw [e1] at e
        exact absurd e (h.1 _ hy2)
    · rcases List.mem_cons.1 hy with e2 | hy2
      · rw [e2] at e
        exact absurd e.symm (h.1 _ hx2)
      · exact ih h.2 x hx2 y hy2 e
theorem chg_sorted {a b : List S59} (ha : a.Pairwise ltMap) (hb : b.Pairwise ltMap) : ((chg a b).mergeSort fun x y => !decide (impl_Change.cf y x < 0)) = mrg a b := by
  have hlt : ∀ x y : S109, decide (impl_Change.cf x y < 0) = decide (bl x.f0 < bl y.f0) := fun x y => by
    rw [decide_eq_decide]
    exact cmpB_lt _ _
  have e : (fun x y : S109 => !decide (impl_Change.cf y x < 0)) = fun x y => !decide (bl y.f0 < bl x.f0) := by
    funext x y
    rw [hlt]
  rw [e]
  have hp := List.mergeSort_perm (chg a b) (fun x y => !decide (bl y.f0 < bl x.f0))
  have h1 := List.pairwise_mergeSort (le := fun x y : S109 => !decide (bl y.f0 < bl x.f0)) (fun x y z h1 h2 => by
    rw [Bool.not_eq_true', decide_eq_false_iff_not] at *
    exact List.not_lt.2 (List.le_trans (List.not_lt.1 h1) (List.not_lt.1 h2))) (fun x y => by
    by_cases h : bl y.f0 < bl x.f0
    · have : ¬ bl x.f0 < bl y.f0 := fun h2 => bl_irrefl _ (bl_trans h h2)
      rw [decide_eq_false this]
      simp
    · rw [decide_eq_false h]
      simp) (chg a b)
  have h2 : ((chg a b).mergeSort fun x y => !decide (bl y.f0 < bl x.f0)).Pairwise (fun x y => x.f0 ≠ y.f0) := (hp.pairwise_iff (fun {x y} h e => h e.symm)).2 (chg_ne ha hb)
  have h3 : ((chg a b).mergeSort fun x y => !decide (bl y.f0 < bl x.f0)).Pairwise ltC := (h1.and h2).imp fun {x y} h => by
    have h4 := h.1
    rw [Bool.not_eq_true', decide_eq_false_iff_not] at h4
    rcases bl_tri (bl x.f0) (bl y.f0) with e | e | e
    · exact e
    · exact absurd (bl_inj e) h.2
    · exact absurd e h4
  refine rise_ext ltC (fun x => bl_irrefl _) (fun x y z => bl_trans) h3 (mrg_srt _ a b (Nat.le_refl _) ha hb) fun x => ?_
  rw [hp.mem_iff, mrg_mem _ a b (Nat.le_refl _) ha hb x]
  unfold chg
  rw [List.mem_append, mem_goneL, mem_newL]
theorem mrg_len {a b : List S59} (ha : a.Pairwise ltMap) (hb : b.Pairwise ltMap) : (mrg a b).length = (chg a b).length := by
  rw [← chg_sorted ha hb, List.length_mergeSort]
theorem chg_uniq {a b : List S59} (ha : a.Pairwise ltMap) (hb : b.Pairwise ltMap) (hl : a.length + b.length ≤ 1048576) : impl_Change.uniq (chg a b) = true := by
  unfold impl_Change.uniq
  have h0 := chg_len a b
  have h := pw_inj (chg_ne ha hb)
  simp only [Bool.and_eq_true, decide_eq_true_eq, List.all_eq_true, Bool.or_eq_true]
  refine ⟨by omega, fun x hx y hy => ?_⟩
  by_cases e : x.f0 = y.f0
  · have := h x hx y hy e
    subst this
    exact Or.inr ⟨rfl, rfl⟩
  · exact Or.inl e
/-- What MapBetween answers. -/
def mapBetOf (a b : List S59) : List S109 × Bool := if mapCOf a = true ∧ mapCOf b = true ∧ (mrg a b).length ≤ 60 then (mrg a b, true) else ([], false)
theorem mapBetOf_len (a b : List S59) : (mapBetOf a b).1.length ≤ 60 := by
  unfold mapBetOf
  split
  · rename_i h; exact h.2.2
  · simp
theorem impl_within.is (a lo hi : Int) : impl_within.f a lo hi = some (decide (lo ≤ a ∧ a ≤ hi)) := by
  unfold impl_within.f
  by_cases h : a ≥ lo
  · rw [if_pos h]
    congr 1
    simp only [decide_eq_decide]
    exact ⟨fun h' => ⟨h, h'⟩, fun h' => h'.2⟩
  · rw [if_neg h, decide_eq_false (fun h' => h h'.1)]
theorem impl_keyOk.is (s : ByteArray) : impl_keyOk.f s = some (decide (1 ≤ (s.size : Int) ∧ (s.size : Int) ≤ 10)) := by
  unfold impl_keyOk.f
  rw [impl_within.is, Option.bind_some]
theorem impl_MapOk.ev0 (l : List S59) (hs : l.length ≤ 1048576) (d : Nat) : ∀ (i : Nat), i + d = l.length →
    Ev (fun k => impl_MapOk.l0 k l l (l.length : Int) (i : Int)) (allF (mapC l) d i && decide ((l.length : Int) ≤ 60)) := by
  induction d with
  | zero =>
    intro i hi
    refine ev_now fun k => ?_
    show impl_MapOk.l0 (k + 1) _ _ _ _ = _
    rw [impl_MapOk.l0, if_neg (by omega)]
    simp [allF]
  | succ d ih =>
    intro i hi
    have e0 : rd_T59 l (i : Int) = l.getD i z59 := rfl
    by_cases h1 : 1 ≤ ((l.getD i z59).f0.size : Int) ∧ ((l.getD i z59).f0.size : Int) ≤ 10
    · by_cases hv : ((l.getD i z59).f1.size : Int) ≤ 40
      · by_cases h2 : i = 0
        · have hC : mapC l i = true := by simp only [mapC, decide_eq_true h1, decide_eq_true hv, decide_eq_true h2, Bool.true_or, Bool.and_true]
          simp only [allF, hC, Bool.true_and]
          refine Ev.step (fun k => ?_) (ih (i + 1) (by omega))
          show impl_MapOk.l0 (k + 1) _ _ _ _ = impl_MapOk.l0 k _ _ _ _
          rw [impl_MapOk.l0, if_pos (by omega), if_pos (by omega), if_pos (by omega), e0, impl_keyOk.is, decide_eq_true h1]
          simp only [Option.bind_some, if_true]
          rw [if_neg (by omega), if_neg (by omega), w64 (by omega) (by omega)]
          rfl
        · have e2 : Hd (wrap64 ((i : Int) - 1) = ((i - 1 : Nat) : Int)) := Hd.mk <| by rw [w64 (by omega) (by omega)]; omega
          have e1 : rd_T59 l ((i - 1 : Nat) : Int) = l.getD (i - 1) z59 := rfl
          by_cases h3 : Op.bytesLess (l.getD (i - 1) z59).f0.toList (l.getD i z59).f0.toList = true
          · have hC : mapC l i = true := by simp only [mapC, decide_eq_true h1, decide_eq_true hv, h3, Bool.or_true, Bool.and_true]
            simp only [allF, hC, Bool.true_and]
            refine Ev.step (fun k => ?_) (ih (i + 1) (by omega))
            show impl_MapOk.l0 (k + 1) _ _ _ _ = impl_MapOk.l0 k _ _ _ _
            rw [impl_MapOk.l0, if_pos (by omega), if_pos (by omega), if_pos (by omega), e0, impl_keyOk.is, decide_eq_true h1]
            simp only [Option.bind_some, if_true]
            rw [if_neg (by omega), if_pos (by omega), e2.out, if_pos (by omega), if_pos (by omega), e1, if_pos h3, w64 (x := (i : Int) + 1) (by omega) (by omega)]
            rfl
          · have hC : mapC l i = false := by simp only [mapC, decide_eq_true h1, decide_eq_true hv, Bool.eq_false_iff.2 h3, decide_eq_false h2, Bool.or_false, Bool.and_false]
            simp only [allF, hC, Bool.false_and]
            refine ev_now fun k => ?_
            show impl_MapOk.l0 (k + 1) _ _ _ _ = _
            rw [impl_MapOk.l0, if_pos (by omega), if_pos (by omega), if_pos (by omega), e0, impl_keyOk.is, decide_eq_true h1]
            simp only [Option.bind_some, if_true]
            rw [if_neg (by omega), if_pos (by omega), e2.out, if_pos (by omega), if_pos (by omega), e1, if_neg h3]
      · have hC : mapC l i = false := by simp only [mapC, decide_eq_false hv, Bool.false_and, Bool.and_false]
        simp only [allF, hC, Bool.false_and]
        refine ev_now fun k => ?_
        show impl_MapOk.l0 (k + 1) _ _ _ _ = _
        rw [impl_MapOk.l0, if_pos (by omega), if_pos (by omega), if_pos (by omega), e0, impl_keyOk.is, decide_eq_true h1]
        simp only [Option.bind_some, if_true]
        rw [if_pos (by omega)]
    · have hC : mapC l i = false := by simp only [mapC, decide_eq_false h1, Bool.false_and]
      simp only [allF, hC, Bool.false_and]
      refine ev_now fun k => ?_
      show impl_MapOk.l0 (k + 1) _ _ _ _ = _
      rw [impl_MapOk.l0, if_pos (by omega), if_pos (by omega), if_pos (by omega), e0, impl_keyOk.is, decide_eq_false h1]
      simp
theorem impl_MapOk.ev (l : List S59) (hs : l.length ≤ 1048576) : Ev (fun k => impl_MapOk.f k l) (mapCOf l) := by
  unfold mapCOf
  obtain ⟨K, h⟩ := impl_MapOk.ev0 l hs l.length 0 (by omega)
  rw [Bool.and_comm]
  exact ⟨K, fun k hk => h k hk⟩
theorem impl_pairNo.cmp_eq (l : List S59) (a : ByteArray) (i : Nat) : impl_pairNo.cmp l a i = Lib.compareBytes (bl (l.getD i z59).f0) (bl a) := rfl
theorem impl_pairNo.mono_of {l : List S59} (h : srtMap l) (hl : (l.length : Int) ≤ 1048576) (a : ByteArray) : impl_pairNo.mono0 l a = true := by
  unfold impl_pairNo.mono0
  simp only [Bool.and_eq_true, decide_eq_true_eq, List.all_eq_true, List.mem_range, Bool.or_eq_true, Bool.not_eq_true', decide_eq_false_iff_not]
  refine ⟨by omega, fun b hb i hi => ?_⟩
  by_cases hc : impl_pairNo.cmp l a b < 0
  · right
    rw [impl_pairNo.cmp_eq, cmpB_lt] at hc ⊢
    by_cases e : i = b
    · rw [e]; exact hc
    · exact bl_trans (h i b (by omega) hb) hc
  · exact Or.inl hc
theorem impl_pairNo.found {l : List S59} (h : srtMap l) (hl : (l.length : Int) ≤ 1048576) (a : ByteArray) (p : Nat) (hp : p < l.length) (he : (l.getD p z59).f0 = a) : impl_pairNo.f l a = some ((p : Int), true) := by
  have hcnt : impl_pairNo.cnt l a = p := impl_pairNo.cnt_eq p (by omega) (fun t ht => by
    rw [impl_pairNo.cmp_eq, cmpB_lt, ← he]
    exact h t p ht hp) (fun t h1 h2 => Int.not_lt.1 fun hc => by
    rw [impl_pairNo.cmp_eq, cmpB_lt, ← he] at hc
    by_cases e : p = t
    · rw [e] at hc; exact bl_irrefl _ hc
    · exact bl_irrefl _ (bl_trans hc (h p t (by omega) h2)))
  unfold impl_pairNo.f
  rw [if_pos (impl_pairNo.mono_of h hl a), hcnt, decide_eq_true hp, impl_pairNo.cmp_eq, he, decide_eq_true ((cmpB_eq _ _).2 rfl)]
  rfl
/-- The place behind the names that are below a. -/
theorem splitMap (l : List S59) (h : srtMap l) (a : ByteArray) : ∃ c, c ≤ l.length ∧ (∀ t, t < c → bl (l.getD t z59).f0 < bl a) ∧ (∀ t, c ≤ t → t < l.length → ¬ bl (l.getD t z59).f0 < bl a) := by
  have : ∀ n, n ≤ l.length → ∃ c, c ≤ n ∧ (∀ t, t < c → bl (l.getD t z59).f0 < bl a) ∧ (∀ t, c ≤ t → t < n → ¬ bl (l.getD t z59).f0 < bl a) := by
    intro n
    induction n with
    | zero => exact fun _ => ⟨0, by omega, fun t ht => by omega, fun t h1 h2 => by omega⟩
    | succ n ih =>
      intro hn
      obtain ⟨c, h1, h2, h3⟩ := ih (by omega)
      by_cases hc : bl (l.getD n z59).f0 < bl a
      · refine ⟨n + 1, by omega, fun t ht => ?_, fun t h1 h2 => by omega⟩
        by_cases e : t = n
        · rw [e]; exact hc
        · exact bl_trans (h t n (by omega) (by omega)) hc
      · refine ⟨c, by omega, h2, fun t h4 h5 => ?_⟩
        by_cases e : t = n
        · rw [e]; exact hc
        · exact h3 t h4 (by omega)
  exact this l.length (Nat.le_refl _)
theorem impl_pairNo.none_ {l : List S59} (h : srtMap l) (hl : (l.length : Int) ≤ 1048576) (a : ByteArray) (hn : ∀ p, p < l.length → (l.getD p z59).f0 ≠ a) :
    ∃ c, c ≤ l.length ∧ impl_pairNo.f l a = some ((c : Int), false) ∧ (∀ t, t < c → bl (l.getD t z59).f0 < bl a) ∧ (∀ t, c ≤ t → t < l.length → bl a < bl (l.getD t z59).f0) := by
  obtain ⟨c, h1, h2, h3⟩ := splitMap l h a
  have hcnt : impl_pairNo.cnt l a = c := impl_pairNo.cnt_eq c h1 (fun t ht => by
    rw [impl_pairNo.cmp_eq, cmpB_lt]
    exact h2 t ht) (fun t h4 h5 => Int.not_lt.1 fun hc => by
    rw [impl_pairNo.cmp_eq, cmpB_lt] at hc
    exact h3 t h4 h5 hc)
  refine ⟨c, h1, ?_, h2, fun t h4 h5 => ?_⟩
  · unfold impl_pairNo.f
    rw [if_pos (impl_pairNo.mono_of h hl a), hcnt]
    by_cases hc : c < l.length
    · rw [impl_pairNo.cmp_eq, decide_eq_false (p := Lib.compareBytes _ _ = 0) (fun e => hn c hc (bl_inj ((cmpB_eq _ _).1 e))), Bool.and_false]
    · rw [decide_eq_false hc, Bool.false_and]
  · rcases bl_tri (bl a) (bl (l.getD t z59).f0) with e | e | e
    · exact e
    · exact absurd (bl_inj e).symm (hn t h5)
    · exact absurd e (h3 t h4 h5)
theorem has_key {b : List S59} (hb : srtMap b) (hl : b.length ≤ 1048576) (k : ByteArray) : (∃ c : Int, impl_pairNo.f b k = some (c, true) ∧ 0 ≤ c ∧ c < (b.length : Int) ∧ (b.getD c.toNat z59).f0 = k) ∨ (∃ c : Int, impl_pairNo.f b k = some (c, false) ∧ ∀ q, q ∈ b → q.f0 ≠ k) := by
  rcases posMap_cases b k b.length 0 with ⟨p, h1, h2, h3, h4⟩ | ⟨h1, h2⟩
  · exact Or.inl ⟨(p : Int), impl_pairNo.found hb (by omega) k p (by omega) h3, by omega, by omega, h3⟩
  · obtain ⟨c, hc, hf, _, _⟩ := impl_pairNo.none_ hb (by omega) k (fun p hp => h1 p (by omega) (by omega))
    refine Or.inr ⟨(c : Int), hf, fun q hq => ?_⟩
    obtain ⟨i, hi, rfl⟩ := List.mem_iff_getElem.1 hq
    have := h1 i (by omega) (by omega)
    rw [getI_Map b i hi] at this
    exact this
def betFin (o : List S109) : List S109 × Bool := if o.length ≤ 60 then (o.mergeSort fun x y => !decide (impl_Change.cf y x < 0), true) else ([], false)
theorem impl_MapBetween.ev1 (a b : List S59) (ha : srtMap a) (hal : a.length ≤ 1048576) (hbl : b.length ≤ 1048576) (d : Nat) : ∀ (j : Nat) (acc : List S109), j + d = b.length → acc.length ≤ 1048576 + j → impl_Change.uniq (acc ++ newL a (b.drop j)) = true →
    Ev (fun k => impl_MapBetween.l1 k a acc b (b.length : Int) (j : Int)) (betFin (acc ++ newL a (b.drop j))) := by
  induction d with
  | zero =>
    intro j acc hj hacc hu
    refine ev_now fun k => ?_
    show impl_MapBetween.l1 (k + 1) _ _ _ _ _ = _
    have e : newL a (b.drop j) = [] := by rw [List.drop_eq_nil_of_le (by omega)]; rfl
    rw [e, List.append_nil] at hu ⊢
    rw [impl_MapBetween.l1, if_neg (by omega)]
    unfold betFin
    by_cases hc : acc.length ≤ 60
    · rw [if_neg (by omega), if_pos hc]
      unfold impl_Change.f
      rw [if_pos hu, Option.bind_some]
    · rw [if_pos (by omega), if_neg hc]
  | succ d ih =>
    intro j acc hj hacc hu
    have hlt : j < b.length := by omega
    have ew : Hd (wrap64 ((j : Int) + 1) = ((j + 1 : Nat) : Int)) := Hd.mk <| by rw [w64 (by omega) (by omega)]; rfl
    have skip : (a.any fun p => decide (p.f0 = b[j].f0) && decide (p.f1 = b[j].f1)) = true → newL a (b.drop j) = newL a (b.drop (j + 1)) := fun h => by
      rw [List.drop_eq_getElem_cons hlt]
      unfold newL
      rw [List.filter_cons, if_neg (by rw [h]; simp)]
    have take : (a.any fun p => decide (p.f0 = b[j].f0) && decide (p.f1 = b[j].f1)) = false → newL a (b.drop j) = newC b[j] :: newL a (b.drop (j + 1)) := fun h => by
      rw [List.drop_eq_getElem_cons hlt]
      unfold newL
      rw [List.filter_cons, if_pos (by rw [h]; simp), List.map_cons]
    have goOn : (a.any fun p => decide (p.f0 = b[j].f0) && decide (p.f1 = b[j].f1)) = false → Ev (fun k => impl_MapBetween.l1 k a (acc ++ [newC b[j]]) b (b.length : Int) ((j + 1 : Nat) : Int)) (betFin (acc ++ newL a (b.drop j))) := fun h => by
      have h2 := ih (j + 1) (acc ++ [newC b[j]]) (by omega) (by simp; omega) (by rw [List.append_assoc, List.singleton_append, ← take h]; exact hu)
      rw [List.append_assoc, List.singleton_append, ← take h] at h2
      exact h2
    rcases has_key ha (by omega) b[j].f0 with ⟨c, hc, h0, h1, h2⟩ | ⟨c, hc, hn⟩
    · obtain ⟨c, rfl⟩ := Int.eq_ofNat_of_zero_le h0
      rw [Int.toNat_natCast] at h2
      have hcl : c < a.length := by omega
      rw [getI_Map a c hcl] at h2
      by_cases hv : a[c].f1 = b[j].f1
      · have hany : (a.any fun p => decide (p.f0 = b[j].f0) && decide (p.f1 = b[j].f1)) = true := by
          rw [List.any_eq_true]
          exact ⟨a[c], List.getElem_mem hcl, by rw [decide_eq_true h2, decide_eq_true hv]; rfl⟩
        rw [skip hany] at hu ⊢
        refine Ev.step (fun k => ?_) (ih (j + 1) acc (by omega) (by omega) hu)
        show impl_MapBetween.l1 (k + 1) _ _ _ _ _ = impl_MapBetween.l1 k _ _ _ _ _
        rw [impl_MapBetween.l1, if_pos (by omega), if_pos (by omega), if_pos (by omega), rdI_Pair b j hlt, hc, Option.bind_some, if_pos rfl, if_pos (show (0 : Int) ≤ (c : Int) by omega), if_pos (show (c : Int) < (a.length : Int) by omega), rdI_Pair a c hcl, if_pos (tl_eq.2 hv), ew.out]
      · have hany : (a.any fun p => decide (p.f0 = b[j].f0) && decide (p.f1 = b[j].f1)) = false := by
          rw [List.any_eq_false]
          intro p hp e
          simp only [Bool.and_eq_true, decide_eq_true_eq] at e
          obtain ⟨i, hi, rfl⟩ := List.mem_iff_getElem.1 hp
          have : i = c := by
            rcases Nat.lt_trichotomy i c with hlt2 | he | hlt2
            · have := ha i c hlt2 hcl
              rw [getI_Map a i hi, getI_Map a c hcl, e.1, h2] at this
              exact absurd this (bl_irrefl _)
            · exact he
            · have := ha c i hlt2 hi
              rw [getI_Map a i hi, getI_Map a c hcl, e.1, h2] at this
              exact absurd this (bl_irrefl _)
          subst this
          exact hv e.2
        refine Ev.step (fun k => ?_) (goOn hany)
        show impl_MapBetween.l1 (k + 1) _ _ _ _ _ = impl_MapBetween.l1 k _ _ _ _ _
        rw [impl_MapBetween.l1, if_pos (by omega), if_pos (by omega), if_pos (by omega), rdI_Pair b j hlt, hc, Option.bind_some, if_pos rfl, if_pos (show (0 : Int) ≤ (c : Int) by omega), if_pos (show (c : Int) < (a.length : Int) by omega), rdI_Pair a c hcl, if_neg (fun h => hv (tl_eq.1 h)), if_pos (by omega), ew.out]
        rfl
    · have hany : (a.any fun p => decide (p.f0 = b[j].f0) && decide (p.f1 = b[j].f1)) = false := by
        rw [List.any_eq_false]
        intro p hp e
        simp only [Bool.and_eq_true, decide_eq_true_eq] at e
        exact hn p hp e.1
      refine Ev.step (fun k => ?_) (goOn hany)
      show impl_MapBetween.l1 (k + 1) _ _ _ _ _ = impl_MapBetween.l1 k _ _ _ _ _
      rw [impl_MapBetween.l1, if_pos (by omega), if_pos (by omega), if_pos (by omega), rdI_Pair b j hlt, hc, Option.bind_some, if_neg (show ¬ (false = true) by decide), if_pos (by omega), ew.out]
      rfl
theorem impl_MapBetween.ev0 (a b : List S59) (ha : srtMap a) (hb : srtMap b) (hal : a.length ≤ 500000) (hbl : b.length ≤ 500000) (d : Nat) : ∀ (i : Nat) (acc : List S109), i + d = a.length → acc.length ≤ i → impl_Change.uniq (acc ++ goneL b (a.drop i) ++ newL a b) = true →
    Ev (fun k => impl_MapBetween.l0 k a b acc a (a.length : Int) (i : Int)) (betFin (acc ++ goneL b (a.drop i) ++ newL a b)) := by
  induction d with
  | zero =>
    intro i acc hi hacc hu
    have e : goneL b (a.drop i) = [] := by rw [List.drop_eq_nil_of_le (by omega)]; rfl
    rw [e, List.append_nil] at hu ⊢
    have h1 := impl_MapBetween.ev1 a b ha (by omega) (by omega) b.length 0 acc (by omega) (by omega) (by rw [List.drop_zero]; exact hu)
    rw [List.drop_zero] at h1
    refine Ev.step (fun k => ?_) h1
    show impl_MapBetween.l0 (k + 1) _ _ _ _ _ _ = impl_MapBetween.l1 k _ _ _ _ _
    rw [impl_MapBetween.l0, if_neg (by omega)]
    rfl
  | succ d ih =>
    intro i acc hi hacc hu
    have hlt : i < a.length := by omega
    have ew : Hd (wrap64 ((i : Int) + 1) = ((i + 1 : Nat) : Int)) := Hd.mk <| by rw [w64 (by omega) (by omega)]; rfl
    rcases has_key hb (by omega) a[i].f0 with ⟨c, hc, h0, h1, h2⟩ | ⟨c, hc, hn⟩
    · obtain ⟨c, rfl⟩ := Int.eq_ofNat_of_zero_le h0
      rw [Int.toNat_natCast] at h2
      have hcl : c < b.length := by omega
      rw [getI_Map b c hcl] at h2
      have hany : (b.any fun q => decide (q.f0 = a[i].f0)) = true := by
        rw [List.any_eq_true]
        exact ⟨b[c], List.getElem_mem hcl, decide_eq_true h2⟩
      have skip : goneL b (a.drop i) = goneL b (a.drop (i + 1)) := by
        rw [List.drop_eq_getElem_cons hlt]
        unfold goneL
        rw [List.filter_cons, if_neg (by rw [hany]; simp)]
      rw [skip] at hu ⊢
      refine Ev.step (fun k => ?_) (ih (i + 1) acc (by omega) (by omega) hu)
      show impl_MapBetween.l0 (k + 1) _ _ _ _ _ _ = impl_MapBetween.l0 k _ _ _ _ _ _
      rw [impl_MapBetween.l0, if_pos (by omega), if_pos (by omega), if_pos (by omega), rdI_Pair a i hlt, hc, Option.bind_some, if_pos rfl, ew.out]
    · have hany : (b.any fun q => decide (q.f0 = a[i].f0)) = false := by
        rw [List.any_eq_false]
        exact fun q hq e => hn q hq (of_decide_eq_true e)
      have take : goneL b (a.drop i) = goneC a[i] :: goneL b (a.drop (i + 1)) := by
        rw [List.drop_eq_getElem_cons hlt]
        unfold goneL
        rw [List.filter_cons, if_pos (by rw [hany]; simp), List.map_cons]
      have e : acc ++ goneL b (a.drop i) ++ newL a b = acc ++ [goneC a[i]] ++ goneL b (a.drop (i + 1)) ++ newL a b := by
        rw [take, List.append_assoc acc [goneC a[i]], List.singleton_append]
      rw [e] at hu ⊢
      refine Ev.step (fun k => ?_) (ih (i + 1) (acc ++ [goneC a[i]]) (by omega) (by simp; omega) hu)
      show impl_MapBetween.l0 (k + 1) _ _ _ _ _ _ = impl_MapBetween.l0 k _ _ _ _ _ _
      rw [impl_MapBetween.l0, if_pos (by omega), if_pos (by omega), if_pos (by omega), rdI_Pair a i hlt, hc, Option.bind_some, if_neg (show ¬ (false = true) by decide), if_pos (by omega), ew.out]
      rfl
theorem impl_MapBetween.ev (a b : List S59) (hal : a.length ≤ 1048576) (hbl : b.length ≤ 1048576) : Ev (fun k => impl_MapBetween.f k a b) (mapBetOf a b) := by
  obtain ⟨K0, h0⟩ := impl_MapOk.ev a hal
  obtain ⟨K1, h1⟩ := impl_MapOk.ev b hbl
  dsimp only at h0 h1
  unfold mapBetOf
  by_cases hca : mapCOf a = true
  · by_cases hcb : mapCOf b = true
    · obtain ⟨ha, hla, _⟩ := mapC_srt hca
      obtain ⟨hb, hlb, _⟩ := mapC_srt hcb
      have pa := (srtMap_iff a).1 ha
      have pb := (srtMap_iff b).1 hb
      have hu := chg_uniq pa pb (by omega)
      obtain ⟨K2, h2⟩ := impl_MapBetween.ev0 a b ha hb (by omega) (by omega) a.length 0 [] (by omega) (by simp) (by rw [List.drop_zero, List.nil_append]; exact hu)
      rw [List.drop_zero, List.nil_append] at h2
      dsimp only at h2
      refine ⟨K0 + K1 + K2 + 1, fun k hk => ?_⟩
      have h0' := h0 k (by omega)
      have h1' := h1 k (by omega)
      obtain ⟨k, rfl⟩ : ∃ m, k = m + 1 := ⟨k - 1, by omega⟩
      show impl_MapBetween.f (k + 1) _ _ = _
      unfold impl_MapBetween.f
      rw [h0', Option.bind_some, if_pos hca, h1', Option.bind_some, hcb, impl_MapBetween.j0, if_neg (by simp)]
      refine (h2 k (by omega)).trans ?_
      show some (betFin (chg a b)) = _
      unfold betFin
      rw [chg_sorted pa pb, mrg_len pa pb]
      by_cases hc : (chg a b).length ≤ 60
      · rw [if_pos hc, if_pos ⟨hca, rfl, hc⟩]
      · rw [if_neg hc, if_neg (fun h => hc h.2.2)]
    · refine ⟨K0 + K1 + 1, fun k hk => ?_⟩
      have h0' := h0 k (by omega)
      have h1' := h1 k (by omega)
      obtain ⟨k, rfl⟩ : ∃ m, k = m + 1 := ⟨k - 1, by omega⟩
      show impl_MapBetween.f (k + 1) _ _ = _
      unfold impl_MapBetween.f
      rw [h0', Option.bind_some, if_pos hca, h1', Option.bind_some, impl_MapBetween.j0, if_pos (by simp [hcb]), if_neg (fun h => hcb h.2.1)]
  · refine ⟨K0 + 1, fun k hk => ?_⟩
    have h0' := h0 k (by omega)
    obtain ⟨k, rfl⟩ : ∃ m, k = m + 1 := ⟨k - 1, by omega⟩
    show impl_MapBetween.f (k + 1) _ _ = _
    unfold impl_MapBetween.f
    rw [h0', Option.bind_some, if_neg hca, impl_MapBetween.j0, if_pos rfl, if_neg (fun h => hca h.1)]
theorem spec_l01In.is (a lo hi : Int) : spec_l01In.f a lo hi = some (decide (lo ≤ a ∧ a ≤ hi)) := by
  unfold spec_l01In.f
  by_cases h : a ≥ lo
  · rw [if_pos h]
    congr 1
    simp only [decide_eq_decide]
    exact ⟨fun h' => ⟨h, h'⟩, fun h' => h'.2⟩
  · rw [if_neg h, decide_eq_false (fun h' => h h'.1)]
theorem spec_l05Key.is (s : ByteArray) : spec_l05Key.f s = some (decide (1 ≤ (s.size : Int) ∧ (s.size : Int) ≤ 10)) := by
  unfold spec_l05Key.f
  rw [spec_l01In.is, Option.bind_some]
theorem spec_MapOk.ev0 (l : List S59) (hs : l.length ≤ 1048576) (d : Nat) : ∀ (i : Nat), i + d = l.length →
    Ev (fun k => spec_MapOk.l0 k l (i : Int)) (allF (mapC l) d i) := by
  induction d with
  | zero =>
    intro i hi
    refine ev_now fun k => ?_
    show spec_MapOk.l0 (k + 1) _ _ = _
    rw [spec_MapOk.l0, if_neg (by omega)]
    rfl
  | succ d ih =>
    intro i hi
    have e0 : rd_T59 l (i : Int) = l.getD i z59 := rfl
    by_cases h1 : 1 ≤ ((l.getD i z59).f0.size : Int) ∧ ((l.getD i z59).f0.size : Int) ≤ 10
    · by_cases hv : ((l.getD i z59).f1.size : Int) ≤ 40
      · by_cases h2 : i = 0
        · have hC : mapC l i = true := by simp only [mapC, decide_eq_true h1, decide_eq_true hv, decide_eq_true h2, Bool.true_or, Bool.and_true]
          simp only [allF, hC, Bool.true_and]
          refine Ev.step (fun k => ?_) (ih (i + 1) (by omega))
          show spec_MapOk.l0 (k + 1) _ _ = spec_MapOk.l0 k _ _
          rw [spec_MapOk.l0, if_pos (by omega), if_pos (by omega), e0, spec_l05Key.is, decide_eq_true h1]
          simp only [Option.bind_some, if_true]
          rw [if_neg (by omega), if_neg (by omega), w64 (by omega) (by omega)]
          rfl
        · have e2 : Hd (wrap64 ((i : Int) - 1) = ((i - 1 : Nat) : Int)) := Hd.mk <| by rw [w64 (by omega) (by omega)]; omega
          have e1 : rd_T59 l ((i - 1 : Nat) : Int) = l.getD (i - 1) z59 := rfl
          by_cases h3 : Op.bytesLess (l.getD (i - 1) z59).f0.toList (l.getD i z59).f0.toList = true
          · have hC : mapC l i = true := by simp only [mapC, decide_eq_true h1, decide_eq_true hv, h3, Bool.or_true, Bool.and_true]
            simp only [allF, hC, Bool.true_and]
            refine Ev.step (fun k => ?_) (ih (i + 1) (by omega))
            show spec_MapOk.l0 (k + 1) _ _ = spec_MapOk.l0 k _ _
            rw [spec_MapOk.l0, if_pos (by omega), if_pos (by omega), e0, spec_l05Key.is, decide_eq_true h1]
            simp only [Option.bind_some, if_true]
            rw [if_neg (by omega), if_pos (by omega), e2.out, if_pos (by omega), if_pos (by omega), e1, if_pos h3, w64 (x := (i : Int) + 1) (by omega) (by omega)]
            rfl
          · have hC : mapC l i = false := by simp only [mapC, decide_eq_true h1, decide_eq_true hv, Bool.eq_false_iff.2 h3, decide_eq_false h2, Bool.or_false, Bool.and_false]
            simp only [allF, hC, Bool.false_and]
            refine ev_now fun k => ?_
            show spec_MapOk.l0 (k + 1) _ _ = _
            rw [spec_MapOk.l0, if_pos (by omega), if_pos (by omega), e0, spec_l05Key.is, decide_eq_true h1]
            simp only [Option.bind_some, if_true]
            rw [if_neg (by omega), if_pos (by omega), e2.out, if_pos (by omega), if_pos (by omega), e1, if_neg h3]
      · have hC : mapC l i = false := by simp only [mapC, decide_eq_false hv, Bool.false_and, Bool.and_false]
        simp only [allF, hC, Bool.false_and]
        refine ev_now fun k => ?_
        show spec_MapOk.l0 (k + 1) _ _ = _
        rw [spec_MapOk.l0, if_pos (by omega), if_pos (by omega), e0, spec_l05Key.is, decide_eq_true h1]
        simp only [Option.bind_some, if_true]
        rw [if_pos (by omega)]
    · have hC : mapC l i = false := by simp only [mapC, decide_eq_false h1, Bool.false_and]
      simp only [allF, hC, Bool.false_and]
      refine ev_now fun k => ?_
      show spec_MapOk.l0 (k + 1) _ _ = _
      rw [spec_MapOk.l0, if_pos (by omega), if_pos (by omega), e0, spec_l05Key.is, decide_eq_false h1]
      simp
theorem spec_MapOk.ev (l : List S59) (hs : l.length ≤ 1048576) : Ev (fun k => spec_MapOk.f k l) (mapCOf l) := by
  unfold mapCOf
  by_cases hc : (l.length : Int) ≤ 60
  · obtain ⟨K, h⟩ := spec_MapOk.ev0 l hs l.length 0 (by omega)
    refine ⟨K, fun k hk => ?_⟩
    show spec_MapOk.f k _ = _
    unfold spec_MapOk.f
    rw [if_neg (by omega), decide_eq_true hc, Bool.true_and]
    exact h k hk
  · refine ⟨0, fun k hk => ?_⟩
    show spec_MapOk.f k _ = _
    unfold spec_MapOk.f
    rw [if_pos (by omega), decide_eq_false hc, Bool.false_and]
theorem spec_MapBetween.ev0 (a b : List S59) (hal : a.length ≤ 500000) (hbl : b.length ≤ 500000) (d : Nat) : ∀ (i j : Nat) (acc : List S109), i ≤ a.length → j ≤ b.length → (a.length - i) + (b.length - j) ≤ d → acc.length ≤ i + j →
    Ev (fun k => spec_MapBetween.l0 k a b acc (i : Int) (j : Int)) (if (acc ++ mrg (a.drop i) (b.drop j)).length ≤ 60 then (acc ++ mrg (a.drop i) (b.drop j), true) else ([], false)) := by
  induction d with
  | zero =>
    intro i j acc hi hj hd hacc
    have e : mrg (a.drop i) (b.drop j) = [] := by rw [List.drop_eq_nil_of_le (by omega), List.drop_eq_nil_of_le (by omega), mrg]; rfl
    rw [e, List.append_nil]
    refine ⟨2, fun k hk => ?_⟩
    obtain ⟨k, rfl⟩ : ∃ m, k = m + 2 := ⟨k - 2, by omega⟩
    show spec_MapBetween.l0 (k + 2) _ _ _ _ _ = _
    rw [spec_MapBetween.l0, if_neg (by omega), decide_eq_false (by omega), spec_MapBetween.j2, if_neg (by simp)]
    by_cases hc : acc.length ≤ 60
    · rw [if_neg (by omega), if_pos hc]
    · rw [if_pos (by omega), if_neg hc]
  | succ d ih =>
    intro i j acc hi hj hd hacc
    have ei : Hd (wrap64 ((i : Int) + 1) = ((i + 1 : Nat) : Int)) := Hd.mk <| by rw [w64 (by omega) (by omega)]; rfl
    have ej : Hd (wrap64 ((j : Int) + 1) = ((j + 1 : Nat) : Int)) := Hd.mk <| by rw [w64 (by omega) (by omega)]; rfl
    by_cases hia : i < a.length
    · by_cases hjb : j < b.length
      · -- both
        have hea : a.drop i = a[i] :: a.drop (i + 1) := List.drop_eq_getElem_cons hia
        have heb : b.drop j = b[j] :: b.drop (j + 1) := List.drop_eq_getElem_cons hjb
        by_cases h1 : bl a[i].f0 < bl b[j].f0
        · have em : mrg (a.drop i) (b.drop j) = goneC a[i] :: mrg (a.drop (i + 1)) (b.drop j) := by
            rw [hea, heb, mrg, if_pos h1]
          obtain ⟨K, h⟩ := ih (i + 1) j (acc ++ [goneC a[i]]) (by omega) hj (by omega) (by simp; omega)
          rw [List.append_assoc, List.singleton_append, ← em] at h
          refine ⟨K + 3, fun k hk => ?_⟩
          obtain ⟨k, rfl⟩ : ∃ m, k = m + 3 := ⟨k - 3, by omega⟩
          refine Eq.trans ?_ (h k (by omega))
          show spec_MapBetween.l0 (k + 3) _ _ _ _ _ = spec_MapBetween.l0 k _ _ _ _ _
          rw [spec_MapBetween.l0, if_pos (by omega), spec_MapBetween.j2, if_pos rfl, if_neg (by omega), if_pos (by omega), if_pos (by omega), if_pos (by omega), if_pos (by omega), rdI_Pair a i hia, rdI_Pair b j hjb, bless, bl_toList, bl_toList, decide_eq_true h1, spec_MapBetween.j3, if_pos rfl, if_pos (by omega), if_pos (by omega), if_pos (by omega), rdI_Pair a i hia, ei.out]
          rfl
        · by_cases h2 : bl b[j].f0 < bl a[i].f0
          · have em : mrg (a.drop i) (b.drop j) = newC b[j] :: mrg (a.drop i) (b.drop (j + 1)) := by
              rw [hea, heb, mrg, if_neg h1, if_pos h2]
            obtain ⟨K, h⟩ := ih i (j + 1) (acc ++ [newC b[j]]) hi (by omega) (by omega) (by simp; omega)
            rw [List.append_assoc, List.singleton_append, ← em] at h
            refine ⟨K + 4, fun k hk => ?_⟩
            obtain ⟨k, rfl⟩ : ∃ m, k = m + 4 := ⟨k - 4, by omega⟩
            refine Eq.trans ?_ (h k (by omega))
            show spec_MapBetween.l0 (k + 4) _ _ _ _ _ = spec_MapBetween.l0 k _ _ _ _ _
            rw [spec_MapBetween.l0, if_pos (by omega), spec_MapBetween.j2, if_pos rfl, if_neg (by omega), if_pos (by omega), if_pos (by omega), if_pos (by omega), if_pos (by omega), rdI_Pair a i hia, rdI_Pair b j hjb, bless, bl_toList, bl_toList, decide_eq_false h1, spec_MapBetween.j3, if_neg (by simp), if_neg (by omega), if_pos (by omega), if_pos (by omega), if_pos (by omega), if_pos (by omega), rdI_Pair a i hia, rdI_Pair b j hjb, bless, bl_toList, bl_toList, decide_eq_true h2, spec_MapBetween.j4, if_pos rfl, if_pos (by omega), if_pos (by omega), if_pos (by omega), rdI_Pair b j hjb, ej.out]
            rfl
          · by_cases hv : a[i].f1 = b[j].f1
            · have em : mrg (a.drop i) (b.drop j) = mrg (a.drop (i + 1)) (b.drop (j + 1)) := by
                rw [hea, heb, mrg, if_neg h1, if_neg h2, if_pos hv]
              obtain ⟨K, h⟩ := ih (i + 1) (j + 1) acc (by omega) (by omega) (by omega) (by omega)
              rw [← em] at h
              refine ⟨K + 4, fun k hk => ?_⟩
              obtain ⟨k, rfl⟩ : ∃ m, k = m + 4 := ⟨k - 4, by omega⟩
              refine Eq.trans ?_ (h k (by omega))
              show spec_MapBetween.l0 (k + 4) _ _ _ _ _ = spec_MapBetween.l0 k _ _ _ _ _
              rw [spec_MapBetween.l0, if_pos (by omega), spec_MapBetween.j2, if_pos rfl, if_neg (by omega), if_pos (by omega), if_pos (by omega), if_pos (by omega), if_pos (by omega), rdI_Pair a i hia, rdI_Pair b j hjb, bless, bl_toList, bl_toList, decide_eq_false h1, spec_MapBetween.j3, if_neg (by simp), if_neg (by omega), if_pos (by omega), if_pos (by omega), if_pos (by omega), if_pos (by omega), rdI_Pair a i hia, rdI_Pair b j hjb, bless, bl_toList, bl_toList, decide_eq_false h2, spec_MapBetween.j4, if_neg (by simp), if_pos (by omega), if_pos (by omega), if_pos (by omega), if_pos (by omega), rdI_Pair a i hia, rdI_Pair b j hjb, if_pos (tl_eq.2 hv), ei.out, ej.out]
            · have em : mrg (a.drop i) (b.drop j) = newC b[j] :: mrg (a.drop (i + 1)) (b.drop (j + 1)) := by
                rw [hea, heb, mrg, if_neg h1, if_neg h2, if_neg hv]
              obtain ⟨K, h⟩ := ih (i + 1) (j + 1) (acc ++ [newC b[j]]) (by omega) (by omega) (by omega) (by simp; omega)
              rw [List.append_assoc, List.singleton_append, ← em] at h
              refine ⟨K + 4, fun k hk => ?_⟩
              obtain ⟨k, rfl⟩ : ∃ m, k = m + 4 := ⟨k - 4, by omega⟩
              refine Eq.trans ?_ (h k (by omega))
              show spec_MapBetween.l0 (k + 4) _ _ _ _ _ = spec_MapBetween.l0 k _ _ _ _ _
              rw [spec_MapBetween.l0, if_pos (by omega), spec_MapBetween.j2, if_pos rfl, if_neg (by omega), if_pos (by omega), if_pos (by omega), if_pos (by omega), if_pos (by omega), rdI_Pair a i hia, rdI_Pair b j hjb, bless, bl_toList, bl_toList, decide_eq_false h1, spec_MapBetween.j3, if_neg (by simp), if_neg (by omega), if_pos (by omega), if_pos (by omega), if_pos (by omega), if_pos (by omega), rdI_Pair a i hia, rdI_Pair b j hjb, bless, bl_toList, bl_toList, decide_eq_false h2, spec_MapBetween.j4, if_neg (by simp), if_pos (by omega), if_pos (by omega), if_pos (by omega), if_pos (by omega), rdI_Pair a i hia, rdI_Pair b j hjb, if_neg (fun h => hv (tl_eq.1 h)), if_pos (by omega), ei.out, ej.out]
              rfl
      · -- the second is at its end
        have heb : b.drop j = [] := List.drop_eq_nil_of_le (by omega)
        have em : mrg (a.drop i) (b.drop j) = goneC a[i] :: mrg (a.drop (i + 1)) (b.drop j) := by
          rw [heb, List.drop_eq_getElem_cons hia, mrg, List.map_cons]
          congr 1
          cases hx : a.drop (i + 1) with
          | nil => rw [mrg]; rfl
          | cons x y => rw [mrg]
        obtain ⟨K, h⟩ := ih (i + 1) j (acc ++ [goneC a[i]]) (by omega) hj (by omega) (by simp; omega)
        rw [List.append_assoc, List.singleton_append, ← em] at h
        refine ⟨K + 3, fun k hk => ?_⟩
        obtain ⟨k, rfl⟩ : ∃ m, k = m + 3 := ⟨k - 3, by omega⟩
        refine Eq.trans ?_ (h k (by omega))
        show spec_MapBetween.l0 (k + 3) _ _ _ _ _ = spec_MapBetween.l0 k _ _ _ _ _
        rw [spec_MapBetween.l0, if_pos (by omega), spec_MapBetween.j2, if_pos rfl, if_pos (by omega), spec_MapBetween.j3, if_pos rfl, if_pos (by omega), if_pos (by omega), if_pos (by omega), rdI_Pair a i hia, ei.out]
        rfl
    · by_cases hjb : j < b.length
      · -- the first is at its end
        have hea : a.drop i = [] := List.drop_eq_nil_of_le (by omega)
        have em : mrg (a.drop i) (b.drop j) = newC b[j] :: mrg (a.drop i) (b.drop (j + 1)) := by
          rw [hea, List.drop_eq_getElem_cons hjb, mrg, List.map_cons, mrg]
        obtain ⟨K, h⟩ := ih i (j + 1) (acc ++ [newC b[j]]) hi (by omega) (by omega) (by simp; omega)
        rw [List.append_assoc, List.singleton_append, ← em] at h
        refine ⟨K + 4, fun k hk => ?_⟩
        obtain ⟨k, rfl⟩ : ∃ m, k = m + 4 := ⟨k - 4, by omega⟩
        refine Eq.trans ?_ (h k (by omega))
        show spec_MapBetween.l0 (k + 4) _ _ _ _ _ = spec_MapBetween.l0 k _ _ _ _ _
        rw [spec_MapBetween.l0, if_neg (by omega), decide_eq_true (show (j : Int) < (b.length : Int) by omega), spec_MapBetween.j2, if_pos rfl, if_neg (by omega), if_neg (by omega), spec_MapBetween.j3, if_neg (by simp), if_pos (by omega), spec_MapBetween.j4, if_pos rfl, if_pos (by omega), if_pos (by omega), if_pos (by omega), rdI_Pair b j hjb, ej.out]
        rfl
      · have e : mrg (a.drop i) (b.drop j) = [] := by rw [List.drop_eq_nil_of_le (by omega), List.drop_eq_nil_of_le (by omega), mrg]; rfl
        rw [e, List.append_nil]
        refine ⟨2, fun k hk => ?_⟩
        obtain ⟨k, rfl⟩ : ∃ m, k = m + 2 := ⟨k - 2, by omega⟩
        show spec_MapBetween.l0 (k + 2) _ _ _ _ _ = _
        rw [spec_MapBetween.l0, if_neg (by omega), decide_eq_false (by omega), spec_MapBetween.j2, if_neg (by simp)]
        by_cases hc : acc.length ≤ 60
        · rw [if_neg (by omega), if_pos hc]
        · rw [if_pos (by omega), if_neg hc]
theorem spec_MapBetween.ev (a b : List S59) (hal : a.length ≤ 1048576) (hbl : b.length ≤ 1048576) : Ev (fun k => spec_MapBetween.f k a b) (mapBetOf a b) := by
  obtain ⟨K0, h0⟩ := spec_MapOk.ev a hal
  obtain ⟨K1, h1⟩ := spec_MapOk.ev b hbl
  dsimp only at h0 h1
  unfold mapBetOf
  by_cases hca : mapCOf a = true
  · by_cases hcb : mapCOf b = true
    · obtain ⟨ha, hla, _⟩ := mapC_srt hca
      obtain ⟨hb, hlb, _⟩ := mapC_srt hcb
      obtain ⟨K2, h2⟩ := spec_MapBetween.ev0 a b (by omega) (by omega) (a.length + b.length) 0 0 [] (by omega) (by omega) (by omega) (by simp)
      rw [List.drop_zero, List.drop_zero, List.nil_append] at h2
      dsimp only at h2
      refine ⟨K0 + K1 + K2 + 1, fun k hk => ?_⟩
      have h0' := h0 k (by omega)
      have h1' := h1 k (by omega)
      obtain ⟨k, rfl⟩ : ∃ m, k = m + 1 := ⟨k - 1, by omega⟩
      show spec_MapBetween.f (k + 1) _ _ = _
      unfold spec_MapBetween.f
      rw [Option.bind_some, h0', Option.bind_some, if_pos hca, h1', Option.bind_some, hcb, spec_MapBetween.j0, if_neg (by simp)]
      refine (h2 k (by omega)).trans ?_
      by_cases hc : (mrg a b).length ≤ 60
      · rw [if_pos hc, if_pos ⟨hca, rfl, hc⟩]
      · rw [if_neg hc, if_neg (fun h => hc h.2.2)]
    · refine ⟨K0 + K1 + 1, fun k hk => ?_⟩
      have h0' := h0 k (by omega)
      have h1' := h1 k (by omega)
      obtain ⟨k, rfl⟩ : ∃ m, k = m + 1 := ⟨k - 1, by omega⟩
      show spec_MapBetween.f (k + 1) _ _ = _
      unfold spec_MapBetween.f
      rw [Option.bind_some, h0', Option.bind_some, if_pos hca, h1', Option.bind_some, spec_MapBetween.j0, if_pos (by simp [hcb]), if_neg (fun h => hcb h.2.1)]
  · refine ⟨K0 + 1, fun k hk => ?_⟩
    have h0' := h0 k (by omega)
    obtain ⟨k, rfl⟩ : ∃ m, k = m + 1 := ⟨k - 1, by omega⟩
    show spec_MapBetween.f (k + 1) _ _ = _
    unfold spec_MapBetween.f
    rw [Option.bind_some, h0', Option.bind_some, if_neg hca, spec_MapBetween.j0, if_pos rfl, if_neg (fun h => hca h.1)]
theorem laws_szPair.is (a0 : ByteArray) (a1 : ByteArray) (n : Int) (h0 : 0 ≤ n) (h1 : n ≤ 1048576) (b0 : a0.size ≤ 9223372036854775807) (b1 : a1.size ≤ 9223372036854775807) : ∃ r, laws_szPair.f a0 a1 n = some r ∧ (0 ≤ r → a0.size ≤ 1048576 ∧ a1.size ≤ 1048576 ∧ r ≤ n) := by
  unfold laws_szPair.f
  rw [w64 (x := n - (a0.size : Int)) (by omega) (by omega)]
  by_cases c0 : n - (a0.size : Int) < 0
  · rw [if_pos c0]; exact ⟨_, rfl, fun h => by omega⟩
  rw [if_neg c0]
  rw [w64 (x := n - (a0.size : Int) - (a1.size : Int)) (by omega) (by omega)]
  by_cases c1 : n - (a0.size : Int) - (a1.size : Int) < 0
  · rw [if_pos c1]; exact ⟨_, rfl, fun h => by omega⟩
  rw [if_neg c1]
  exact ⟨_, rfl, fun h => by omega⟩
theorem rdL_Pair (l : List S129) (n : Nat) (h : n < l.length) : rd_T129 l (n : Int) = l[n] := by
  show l.getD n z129 = _
  simp [List.getD_eq_getElem?_getD, List.getElem?_eq_getElem h]
theorem laws_szPairS.ev0 (l : List S129) (hl : l.length ≤ 1048576) (hw : ∀ x ∈ l, x.f0.size ≤ 9223372036854775807 ∧ x.f1.size ≤ 9223372036854775807) (d : Nat) : ∀ (i : Nat) (n : Int), i + d = l.length → 0 ≤ n → n ≤ 1048576 →
    ∃ r, Ev (fun k => laws_szPairS.l0 k l n (i : Int)) r ∧ (0 ≤ r → (∀ x ∈ l.drop i, x.f0.size ≤ 1048576 ∧ x.f1.size ≤ 1048576) ∧ r ≤ n) := by
  induction d with
  | zero =>
    intro i n hi h0 h1
    refine ⟨n, ⟨1, fun k hk => ?_⟩, fun _ => ⟨fun x hx => (by rw [List.drop_eq_nil_of_le (by omega)] at hx; cases hx), by omega⟩⟩
    obtain ⟨k, rfl⟩ : ∃ m, k = m + 1 := ⟨k - 1, by omega⟩
    show laws_szPairS.l0 (k + 1) _ _ _ = _
    rw [laws_szPairS.l0, if_neg (by omega)]
  | succ d ih =>
    intro i n hi h0 h1
    have hlt : i < l.length := by omega
    have hm := hw l[i] (List.getElem_mem hlt)
    obtain ⟨r, hr, hf⟩ := laws_szPair.is l[i].f0 l[i].f1 n h0 h1 (by omega) (by omega)
    by_cases hneg : r < 0
    · refine ⟨-1, ⟨1, fun k hk => ?_⟩, fun h => by omega⟩
      obtain ⟨k, rfl⟩ : ∃ m, k = m + 1 := ⟨k - 1, by omega⟩
      show laws_szPairS.l0 (k + 1) _ _ _ = _
      rw [laws_szPairS.l0, if_pos (by omega), if_pos (by omega), rdL_Pair l i hlt, hr, Option.bind_some, if_pos hneg]
    · have hf' := hf (by omega)
      obtain ⟨r', h', hf2⟩ := ih (i + 1) r (by omega) (by omega) (by omega)
      refine ⟨r', Ev.step (fun k => ?_) h', fun hr' => ⟨fun x hx => ?_, by have := (hf2 hr').2; omega⟩⟩
      · show laws_szPairS.l0 (k + 1) _ _ _ = laws_szPairS.l0 k _ _ _
        rw [laws_szPairS.l0, if_pos (by omega), if_pos (by omega), rdL_Pair l i hlt, hr, Option.bind_some, if_neg hneg, w64 (by omega) (by omega)]
        rfl
      · rw [List.drop_eq_getElem_cons hlt] at hx
        rcases List.mem_cons.1 hx with rfl | hx
        · omega
        · exact (hf2 hr').1 x hx
theorem laws_szPairS.ev (l : List S129) (hl : l.length ≤ 9223372036854775807) (hw : ∀ x ∈ l, x.f0.size ≤ 9223372036854775807 ∧ x.f1.size ≤ 9223372036854775807) (n : Int) (h0 : 0 ≤ n) (h1 : n ≤ 1048576) :
    ∃ r, Ev (fun k => laws_szPairS.f k l n) r ∧ (0 ≤ r → l.length ≤ 1048576 ∧ (∀ x ∈ l, x.f0.size ≤ 1048576 ∧ x.f1.size ≤ 1048576) ∧ r ≤ n) := by
  have e : Hd (wrap64 (n - (l.length : Int)) = n - (l.length : Int)) := Hd.mk <| w64 (by omega) (by omega)
  by_cases h : n - (l.length : Int) < 0
  · refine ⟨-1, ⟨0, fun k hk => ?_⟩, fun h => by omega⟩
    show laws_szPairS.f k _ _ = _
    unfold laws_szPairS.f
    rw [e.out, if_pos h]
  · obtain ⟨r, ⟨K, hK⟩, hf⟩ := laws_szPairS.ev0 l (by omega) hw l.length 0 (n - (l.length : Int)) (by omega) (by omega) (by omega)
    refine ⟨r, ⟨K, fun k hk => ?_⟩, fun h => ⟨by omega, (hf h).1, by have := (hf h).2; omega⟩⟩
    show laws_szPairS.f k _ _ = _
    unfold laws_szPairS.f
    rw [e.out, if_neg h]
    exact hK k hk
def cvPair (x : S129) : S59 := ⟨x.f0, x.f1⟩
theorem laws_toPairS.ev0 (l : List S129) (hs : l.length ≤ 1048576) (d : Nat) : ∀ (i : Nat) (x : List S59), i + d = l.length → x.length = l.length → x.take i = (l.map cvPair).take i →
    Ev (fun k => laws_toPairS.l0 k l x (i : Int)) (l.map cvPair) := by
  have hml : (l.map cvPair).length = l.length := by simp
  induction d with
  | zero =>
    intro i x hi hx he
    refine ⟨1, fun k hk => ?_⟩
    obtain ⟨k, rfl⟩ : ∃ m, k = m + 1 := ⟨k - 1, by omega⟩
    show laws_toPairS.l0 (k + 1) _ _ _ = _
    rw [laws_toPairS.l0, if_neg (by omega)]
    rw [List.take_of_length_le (by omega), List.take_of_length_le (by omega)] at he
    rw [he]
  | succ d ih =>
    intro i x hi hx he
    have hlt : i < l.length := by omega
    refine Ev.step (fun k => ?_) (ih (i + 1) (x.set i (cvPair l[i])) (by omega) (by simp; omega) ?_)
    · show laws_toPairS.l0 (k + 1) _ _ _ = laws_toPairS.l0 k _ _ _
      rw [laws_toPairS.l0, if_pos (by omega), if_pos (by omega), rdL_Pair l i hlt]
      unfold laws_toPair.f
      rw [Option.bind_some, if_pos (by omega), w64 (by omega) (by omega)]
      rfl
    · rw [List.take_succ_eq_append_getElem (by simp; omega), List.take_succ_eq_append_getElem (by simp; omega), List.take_set_of_le (by omega), he]
      simp
theorem laws_toPairS.ev (l : List S129) (hs : l.length ≤ 1048576) : Ev (fun k => laws_toPairS.f k l) (l.map cvPair) := by
  obtain ⟨K, h⟩ := laws_toPairS.ev0 l hs l.length 0 (List.replicate l.length z59) (by omega) (by simp) (by simp)
  dsimp only at h
  refine ⟨K, fun k hk => ?_⟩
  show laws_toPairS.f k _ = _
  unfold laws_toPairS.f
  rw [if_pos (by omega), if_pos (by omega)]
  exact h k hk
theorem laws_eqPair.refl (a0 : ByteArray) (a1 : ByteArray) : laws_eqPair.f a0 a1 a0 a1 = some true := by
  unfold laws_eqPair.f
  simp
theorem laws_eqPairS.ev0 (l : List S59) (hs : l.length ≤ 1048576) (d : Nat) : ∀ (i : Nat), i + d = l.length → Ev (fun k => laws_eqPairS.l0 k l l (i : Int)) true := by
  induction d with
  | zero =>
    intro i hi
    refine ⟨1, fun k hk => ?_⟩
    obtain ⟨k, rfl⟩ : ∃ m, k = m + 1 := ⟨k - 1, by omega⟩
    show laws_eqPairS.l0 (k + 1) _ _ _ = _
    rw [laws_eqPairS.l0, if_neg (by omega)]
  | succ d ih =>
    intro i hi
    refine Ev.step (fun k => ?_) (ih (i + 1) (by omega))
    show laws_eqPairS.l0 (k + 1) _ _ _ = laws_eqPairS.l0 k _ _ _
    rw [laws_eqPairS.l0, if_pos (by omega), if_pos (by omega), if_pos (by omega), laws_eqPair.refl, Option.bind_some, if_pos rfl, w64 (by omega) (by omega)]
    rfl
theorem laws_eqPairS.ev (l : List S59) (hs : l.length ≤ 1048576) : Ev (fun k => laws_eqPairS.f k l l) true := by
  obtain ⟨K, h⟩ := laws_eqPairS.ev0 l hs l.length 0 (by omega)
  refine ⟨K, fun k hk => ?_⟩
  show laws_eqPairS.f k _ _ = _
  unfold laws_eqPairS.f
  rw [if_pos rfl]
  exact h k hk
/-- The decimal figures of k ahead of acc, with the letter m ahead. -/
def mtL : Nat → Nat → List UInt8 → List UInt8
  | 0, _, acc => 109 :: acc
  | f + 1, k, acc => if 0 < k then mtL f (k / 10) (UInt8.ofNat (48 + k % 10) :: acc) else 109 :: acc
def mtOf (k : Int) : ByteArray := if k ≤ 0 then mk [109, 48] else mk (mtL 20 k.toNat [])
theorem laws_markText.ev0 (f : Nat) : ∀ (n : Nat) (acc : List UInt8), n < 10 ^ f → n ≤ 9223372036854775807 → f + acc.length ≤ 100 → Ev (fun k => laws_markText.l0 k (n : Int) (mk acc)) (mk (mtL f n acc)) := by
  induction f with
  | zero =>
    intro n acc hn hn2 hl
    have hsz := mk_size acc
    refine ⟨1, fun k hk => ?_⟩
    obtain ⟨k, rfl⟩ : ∃ m, k = m + 1 := ⟨k - 1, by omega⟩
    show laws_markText.l0 (k + 1) _ _ = _
    rw [laws_markText.l0, if_neg (by simp at hn; omega), if_pos (by omega), show (⟨#[109]⟩ : ByteArray) = mk [109] from rfl, mk_append]
    rfl
  | succ f ih =>
    intro n acc hn hn2 hl
    have hsz := mk_size acc
    by_cases h : 0 < n
    · have e1 : Hd (Int.tmod (n : Int) 10 = ((n % 10 : Nat) : Int)) := Hd.mk <| tmod_nat n 10
      have e2 : Hd (Int.tdiv (n : Int) 10 = ((n / 10 : Nat) : Int)) := Hd.mk <| tdiv_nat n 10
      have e3 : Hd (([(wrap64 (48 + ((n % 10 : Nat) : Int))) % 256] : List Int) = nm [UInt8.ofNat (48 + n % 10)]) := Hd.mk <| by
        rw [nm_u8 _ (by omega), w64 (by omega) (by omega)]
        congr 1
        omega
      have hd : n / 10 < 10 ^ f := by
        rw [Nat.pow_succ] at hn
        omega
      rw [mtL, if_pos h]
      refine Ev.step (fun k => ?_) (ih (n / 10) (UInt8.ofNat (48 + n % 10) :: acc) hd (by omega) (by simp; omega))
      show laws_markText.l0 (k + 1) _ _ = laws_markText.l0 k _ _
      rw [laws_markText.l0, if_pos (by omega), e1.out, e2.out, e3.out, Option.bind_some, strOf_nm, if_pos (by rw [mk_size]; simp; omega), mk_append]
      congr 1
      exact w64 (by omega) (by omega)
    · rw [mtL, if_neg h]
      refine ⟨1, fun k hk => ?_⟩
      obtain ⟨k, rfl⟩ : ∃ m, k = m + 1 := ⟨k - 1, by omega⟩
      show laws_markText.l0 (k + 1) _ _ = _
      rw [laws_markText.l0, if_neg (by omega), if_pos (by omega), show (⟨#[109]⟩ : ByteArray) = mk [109] from rfl, mk_append]
      rfl
theorem laws_markText.ev (n : Int) (h : n ≤ 9223372036854775807) : Ev (fun k => laws_markText.f k n) (mtOf n) := by
  unfold mtOf
  by_cases h0 : n ≤ 0
  · rw [if_pos h0]
    refine ⟨0, fun k _ => ?_⟩
    show laws_markText.f k _ = _
    unfold laws_markText.f
    rw [if_pos h0]
    rfl
  · rw [if_neg h0]
    obtain ⟨m, rfl⟩ := Int.eq_ofNat_of_zero_le (show 0 ≤ n by omega)
    obtain ⟨K, hK⟩ := laws_markText.ev0 20 m [] (by omega) (by omega) (by simp)
    refine ⟨K, fun k hk => ?_⟩
    show laws_markText.f k _ = _
    unfold laws_markText.f
    rw [if_neg h0]
    exact hK k hk
/-- What a marked list is. -/
def msPair (k : Nat) : List S59 → List S59
  | [] => []
  | _ :: l => ⟨mtOf ((k : Nat) : Int), mtOf ((k + 1 : Nat) : Int)⟩ :: msPair (k + 2) l
theorem msPair_length : ∀ (l : List S59) (k : Nat), (msPair k l).length = l.length
  | [], _ => rfl
  | _ :: l, k => by simp [msPair, msPair_length l (k + 2)]
theorem laws_markPairS.ev0 (d : Nat) : ∀ (i n : Nat) (x : List S59), i + d = x.length → n + 2 * d ≤ 4611686018427387904 → x.length ≤ 1048576 →
    Ev (fun k => laws_markPairS.l0 k x (n : Int) (i : Int)) (((n + 2 * d : Nat) : Int), x.take i ++ msPair n (x.drop i)) := by
  induction d with
  | zero =>
    intro i n x hi hn hx
    refine ⟨1, fun k hk => ?_⟩
    obtain ⟨k, rfl⟩ : ∃ m, k = m + 1 := ⟨k - 1, by omega⟩
    show laws_markPairS.l0 (k + 1) _ _ _ = _
    rw [laws_markPairS.l0, if_neg (by omega), List.drop_eq_nil_of_le (by omega), List.take_of_length_le (by omega)]
    simp [msPair]
  | succ d ih =>
    intro i n x hi hn hx
    have hlt : i < x.length := by omega
    obtain ⟨K0, h0⟩ := laws_markText.ev ((n : Nat) : Int) (by omega)
    obtain ⟨K1, h1⟩ := laws_markText.ev ((n + 1 : Nat) : Int) (by omega)
    obtain ⟨K9, h9⟩ := ih (i + 1) (n + 2) (x.set i ⟨mtOf ((n : Nat) : Int), mtOf ((n + 1 : Nat) : Int)⟩) (by simp; omega) (by omega) (by simp; omega)
    dsimp only at h0 h1 h9
    refine ⟨K0 + K1 + K9 + 1, fun k hk => ?_⟩
    obtain ⟨k, rfl⟩ : ∃ m, k = m + 1 := ⟨k - 1, by omega⟩
    show laws_markPairS.l0 (k + 1) _ _ _ = _
    have h0' := h0 k (by omega)
    have h1' := h1 k (by omega)
    have h9' := h9 k (by omega)
    have e1 : Hd (wrap64 (((n : Nat) : Int) + 1) = ((n + 1 : Nat) : Int)) := Hd.mk <| by rw [w64 (by omega) (by omega)]; rfl
    have e2 : Hd (wrap64 (((n + 1 : Nat) : Int) + 1) = ((n + 2 : Nat) : Int)) := Hd.mk <| by rw [w64 (by omega) (by omega)]; rfl
    have ei : Hd (wrap64 ((i : Int) + 1) = ((i + 1 : Nat) : Int)) := Hd.mk <| by rw [w64 (by omega) (by omega)]; rfl
    have hrd : ∀ a : S59, rd_T59 (x.set i a) (i : Int) = a := fun a => by
      rw [rdI_Pair _ i (by simp; omega)]
      simp
    rw [laws_markPairS.l0]
    simp only [if_pos (show (i : Int) < (x.length : Int) by omega), if_pos (show (0 : Int) ≤ (i : Int) by omega), Int.toNat_natCast, e1.out, e2.out, ei.out, h0', h1', Option.bind_some, hrd, List.set_set]
    refine h9'.trans ?_
    congr 2
    · omega
    · rw [List.drop_eq_getElem_cons hlt, msPair, List.take_succ_eq_append_getElem (by simp; omega), List.drop_set_of_lt (by omega), List.take_set_of_le (by omega)]
      simp
theorem laws_markPairS.ev (l : List S59) (hs : l.length ≤ 1048576) (n : Nat) (hn : n ≤ 1099511627776) : Ev (fun k => laws_markPairS.f k l (n : Int)) (((n + 2 * l.length : Nat) : Int), msPair n l) := by
  obtain ⟨K, h⟩ := laws_markPairS.ev0 l.length 0 n l (by omega) (by omega) hs
  dsimp only at h
  refine ⟨K, fun k hk => ?_⟩
  show laws_markPairS.f k _ _ = _
  unfold laws_markPairS.f
  have := h k hk
  simpa using this
theorem laws_eqChange.refl (a0 : ByteArray) (a1 : ByteArray) (a2 : Bool) : laws_eqChange.f a0 a1 a2 a0 a1 a2 = some true := by
  unfold laws_eqChange.f
  simp
theorem laws_eqChangeS.ev0 (l : List S109) (hs : l.length ≤ 1048576) (d : Nat) : ∀ (i : Nat), i + d = l.length → Ev (fun k => laws_eqChangeS.l0 k l l (i : Int)) true := by
  induction d with
  | zero =>
    intro i hi
    refine ⟨1, fun k hk => ?_⟩
    obtain ⟨k, rfl⟩ : ∃ m, k = m + 1 := ⟨k - 1, by omega⟩
    show laws_eqChangeS.l0 (k + 1) _ _ _ = _
    rw [laws_eqChangeS.l0, if_neg (by omega)]
  | succ d ih =>
    intro i hi
    refine Ev.step (fun k => ?_) (ih (i + 1) (by omega))
    show laws_eqChangeS.l0 (k + 1) _ _ _ = laws_eqChangeS.l0 k _ _ _
    rw [laws_eqChangeS.l0, if_pos (by omega), if_pos (by omega), if_pos (by omega), laws_eqChange.refl, Option.bind_some, if_pos rfl, w64 (by omega) (by omega)]
    rfl
theorem laws_eqChangeS.ev (l : List S109) (hs : l.length ≤ 1048576) : Ev (fun k => laws_eqChangeS.f k l l) true := by
  obtain ⟨K, h⟩ := laws_eqChangeS.ev0 l hs l.length 0 (by omega)
  refine ⟨K, fun k hk => ?_⟩
  show laws_eqChangeS.f k _ _ = _
  unfold laws_eqChangeS.f
  rw [if_pos rfl]
  exact h k hk
/-- What a marked list is. -/
def msChange (k : Nat) : List S109 → List S109
  | [] => []
  | _ :: l => ⟨mtOf ((k : Nat) : Int), mtOf ((k + 1 : Nat) : Int), (Int.tmod ((k + 2 : Nat) : Int) 3 == 0)⟩ :: msChange (k + 3) l
theorem msChange_length : ∀ (l : List S109) (k : Nat), (msChange k l).length = l.length
  | [], _ => rfl
  | _ :: l, k => by simp [msChange, msChange_length l (k + 3)]
theorem laws_markChangeS.ev0 (d : Nat) : ∀ (i n : Nat) (x : List S109), i + d = x.length → n + 3 * d ≤ 4611686018427387904 → x.length ≤ 1048576 →
    Ev (fun k => laws_markChangeS.l0 k x (n : Int) (i : Int)) (((n + 3 * d : Nat) : Int), x.take i ++ msChange n (x.drop i)) := by
  induction d with
  | zero =>
    intro i n x hi hn hx
    refine ⟨1, fun k hk => ?_⟩
    obtain ⟨k, rfl⟩ : ∃ m, k = m + 1 := ⟨k - 1, by omega⟩
    show laws_markChangeS.l0 (k + 1) _ _ _ = _
    rw [laws_markChangeS.l0, if_neg (by omega), List.drop_eq_nil_of_le (by omega), List.take_of_length_le (by omega)]
    simp [msChange]
  | succ d ih =>
    intro i n x hi hn hx
    have hlt : i < x.length := by omega
    obtain ⟨K0, h0⟩ := laws_markText.ev ((n : Nat) : Int) (by omega)
    obtain ⟨K1, h1⟩ := laws_markText.ev ((n + 1 : Nat) : Int) (by omega)
    obtain ⟨K9, h9⟩ := ih (i + 1) (n + 3) (x.set i ⟨mtOf ((n : Nat) : Int), mtOf ((n + 1 : Nat) : Int), (Int.tmod ((n + 2 : Nat) : Int) 3 == 0)⟩) (by simp; omega) (by omega) (by simp; omega)
    dsimp only at h0 h1 h9
    refine ⟨K0 + K1 + K9 + 1, fun k hk => ?_⟩
    obtain ⟨k, rfl⟩ : ∃ m, k = m + 1 := ⟨k - 1, by omega⟩
    show laws_markChangeS.l0 (k + 1) _ _ _ = _
    have h0' := h0 k (by omega)
    have h1' := h1 k (by omega)
    have h9' := h9 k (by omega)
    have e1 : Hd (wrap64 (((n : Nat) : Int) + 1) = ((n + 1 : Nat) : Int)) := Hd.mk <| by rw [w64 (by omega) (by omega)]; rfl
    have e2 : Hd (wrap64 (((n + 1 : Nat) : Int) + 1) = ((n + 2 : Nat) : Int)) := Hd.mk <| by rw [w64 (by omega) (by omega)]; rfl
    have e3 : Hd (wrap64 (((n + 2 : Nat) : Int) + 1) = ((n + 3 : Nat) : Int)) := Hd.mk <| by rw [w64 (by omega) (by omega)]; rfl
    have ei : Hd (wrap64 ((i : Int) + 1) = ((i + 1 : Nat) : Int)) := Hd.mk <| by rw [w64 (by omega) (by omega)]; rfl
    have hrd : ∀ a : S109, rd_T109 (x.set i a) (i : Int) = a := fun a => by
      rw [rdI_Change _ i (by simp; omega)]
      simp
    rw [laws_markChangeS.l0]
    simp only [if_pos (show (i : Int) < (x.length : Int) by omega), if_pos (show (0 : Int) ≤ (i : Int) by omega), Int.toNat_natCast, e1.out, e2.out, e3.out, ei.out, h0', h1', Option.bind_some, hrd, List.set_set]
    refine h9'.trans ?_
    congr 2
    · omega
    · rw [List.drop_eq_getElem_cons hlt, msChange, List.take_succ_eq_append_getElem (by simp; omega), List.drop_set_of_lt (by omega), List.take_set_of_le (by omega)]
      simp
theorem laws_markChangeS.ev (l : List S109) (hs : l.length ≤ 1048576) (n : Nat) (hn : n ≤ 1099511627776) : Ev (fun k => laws_markChangeS.f k l (n : Int)) (((n + 3 * l.length : Nat) : Int), msChange n l) := by
  obtain ⟨K, h⟩ := laws_markChangeS.ev0 l.length 0 n l (by omega) (by omega) hs
  dsimp only at h
  refine ⟨K, fun k hk => ?_⟩
  show laws_markChangeS.f k _ _ = _
  unfold laws_markChangeS.f
  have := h k hk
  simpa using this
theorem laws_heldChangeS.ev0 (l : List S109) (d : Nat) : ∀ (i n : Nat) (x : List S109), i + d = x.length → n + 3 * d ≤ 4611686018427387904 → x.length ≤ 1048576 → (∃ y : List S109, x.drop i = msChange n y) →
    Ev (fun k => laws_heldChangeS.l0 k x (n : Int) (i : Int)) ((n + 3 * d : Nat) : Int) := by
  induction d with
  | zero =>
    intro i n x hi hn hx hy
    refine ⟨1, fun k hk => ?_⟩
    obtain ⟨k, rfl⟩ : ∃ m, k = m + 1 := ⟨k - 1, by omega⟩
    show laws_heldChangeS.l0 (k + 1) _ _ _ = _
    rw [laws_heldChangeS.l0, if_neg (by omega)]
    rfl
  | succ d ih =>
    intro i n x hi hn hx hy
    obtain ⟨y, hy⟩ := hy
    have hlt : i < x.length := by omega
    rw [List.drop_eq_getElem_cons hlt] at hy
    cases y with
    | nil => exact absurd hy (List.cons_ne_nil _ _)
    | cons y0 y =>
      rw [msChange, List.cons_eq_cons] at hy
      obtain ⟨K0, h0⟩ := laws_markText.ev ((n : Nat) : Int) (by omega)
      obtain ⟨K1, h1⟩ := laws_markText.ev ((n + 1 : Nat) : Int) (by omega)
      obtain ⟨K9, h9⟩ := ih (i + 1) (n + 3) x (by omega) (by omega) hx ⟨y, hy.2⟩
      dsimp only at h0 h1 h9
      refine ⟨K0 + K1 + K9 + 1, fun k hk => ?_⟩
      obtain ⟨k, rfl⟩ : ∃ m, k = m + 1 := ⟨k - 1, by omega⟩
      show laws_heldChangeS.l0 (k + 1) _ _ _ = _
      have h0' := h0 k (by omega)
      have h1' := h1 k (by omega)
      have h9' := h9 k (by omega)
      have e1 : Hd (wrap64 (((n : Nat) : Int) + 1) = ((n + 1 : Nat) : Int)) := Hd.mk <| by rw [w64 (by omega) (by omega)]; rfl
      have e2 : Hd (wrap64 (((n + 1 : Nat) : Int) + 1) = ((n + 2 : Nat) : Int)) := Hd.mk <| by rw [w64 (by omega) (by omega)]; rfl
      have e3 : Hd (wrap64 (((n + 2 : Nat) : Int) + 1) = ((n + 3 : Nat) : Int)) := Hd.mk <| by rw [w64 (by omega) (by omega)]; rfl
      have ei : Hd (wrap64 ((i : Int) + 1) = ((i + 1 : Nat) : Int)) := Hd.mk <| by rw [w64 (by omega) (by omega)]; rfl
      have g0 : (rd_T109 x (i : Int)).f0 = mtOf ((n : Nat) : Int) := by rw [rdI_Change x i hlt, hy.1]
      have g1 : (rd_T109 x (i : Int)).f1 = mtOf ((n + 1 : Nat) : Int) := by rw [rdI_Change x i hlt, hy.1]
      have g2 : (rd_T109 x (i : Int)).f2 = (Int.tmod ((n + 2 : Nat) : Int) 3 == 0) := by rw [rdI_Change x i hlt, hy.1]
      rw [laws_heldChangeS.l0]
      simp only [if_pos (show (i : Int) < (x.length : Int) by omega), if_pos (show (0 : Int) ≤ (i : Int) by omega), e1.out, e2.out, e3.out, ei.out, h0', h1', Option.bind_some, g0, g1, g2, if_true, bne_self_eq_false, Bool.false_eq_true, if_false]
      refine h9'.trans ?_
      congr 1
      omega
theorem laws_heldChangeS.ev (l : List S109) (hs : l.length ≤ 1048576) (n : Nat) (hn : n ≤ 1099511627776) : Ev (fun k => laws_heldChangeS.f k (msChange n l) (n : Int)) ((n + 3 * l.length : Nat) : Int) := by
  have hl := msChange_length l n
  obtain ⟨K, h⟩ := laws_heldChangeS.ev0 l l.length 0 n (msChange n l) (by omega) (by omega) (by omega) ⟨l, rfl⟩
  exact ⟨K, fun k hk => h k hk⟩
theorem FnExactMapBetween : ∀ (l0 : List S129) (l1 : List S129), (l0.length ≤ maxLen ∧ ∀ y ∈ l0, (y.f0.size ≤ maxLen) ∧ (y.f1.size ≤ maxLen)) → (l1.length ≤ maxLen ∧ ∀ y ∈ l1, (y.f0.size ≤ maxLen) ∧ (y.f1.size ≤ maxLen)) → ∃ k, laws_FnExactMapBetween.f k l0 l1 = some true := by
  intro l cs hw hc
  unfold maxLen at hw hc
  obtain ⟨r, ⟨K0, h0⟩, hf⟩ := laws_szPairS.ev l hw.1 hw.2 1048576 (by omega) (by omega)
  dsimp only at h0
  by_cases hr : r < 0
  · refine ⟨K0, ?_⟩
    unfold laws_FnExactMapBetween.f
    rw [h0 _ (by omega), Option.bind_some, if_pos hr]
  obtain ⟨hl, _, hrn⟩ := hf (by omega)
  obtain ⟨r2, ⟨K9, h9⟩, hf2⟩ := laws_szPairS.ev cs hc.1 hc.2 r (by omega) (by omega)
  dsimp only at h9
  by_cases hn2 : r2 < 0
  · refine ⟨K0 + K9, ?_⟩
    unfold laws_FnExactMapBetween.f
    rw [h0 _ (by omega), Option.bind_some, if_neg hr, h9 _ (by omega), Option.bind_some, if_pos hn2]
  have hcl := (hf2 (by omega)).1
  have hml : (l.map cvPair).length ≤ 1048576 := by simpa using hl
  have hmc : (cs.map cvPair).length ≤ 1048576 := by simpa using hcl
  obtain ⟨K1, h1⟩ := spec_MapBetween.ev (l.map cvPair) (cs.map cvPair) hml hmc
  obtain ⟨K2, h2⟩ := impl_MapBetween.ev (l.map cvPair) (cs.map cvPair) hml hmc
  have hbl := mapBetOf_len (l.map cvPair) (cs.map cvPair)
  generalize mapBetOf (l.map cvPair) (cs.map cvPair) = B at h1 h2 hbl
  obtain ⟨B, b⟩ := B
  dsimp only at hbl
  obtain ⟨K3, h3⟩ := laws_toPairS.ev l hl
  obtain ⟨K4, h4⟩ := laws_eqPairS.ev (l.map cvPair) hml
  obtain ⟨K5, h5⟩ := laws_eqChangeS.ev B (by omega)
  obtain ⟨K6, h6⟩ := laws_markPairS.ev (l.map cvPair) hml 1 (by omega)
  obtain ⟨K7, h7⟩ := laws_markChangeS.ev B (by omega) 1 (by omega)
  obtain ⟨K8, h8⟩ := laws_heldChangeS.ev B (by omega) 1 (by omega)
  obtain ⟨K10, h10⟩ := laws_toPairS.ev cs hcl
  obtain ⟨K11, h11⟩ := laws_eqPairS.ev (cs.map cvPair) hmc
  obtain ⟨K12, h12⟩ := laws_markPairS.ev (cs.map cvPair) hmc (1 + 2 * (l.map cvPair).length) (by omega)
  dsimp only at h1 h2 h3 h4 h5 h6 h7 h8 h10 h11 h12
  refine ⟨K0 + K1 + K2 + K3 + K4 + K5 + K6 + K7 + K8 + K9 + K10 + K11 + K12 + 3, ?_⟩
  generalize hk : K0 + K1 + K2 + K3 + K4 + K5 + K6 + K7 + K8 + K9 + K10 + K11 + K12 = k
  unfold laws_FnExactMapBetween.f
  rw [h0 _ (by omega), Option.bind_some, if_neg hr, h9 _ (by omega), Option.bind_some, if_neg hn2, h3 _ (by omega), Option.bind_some, h10 _ (by omega), Option.bind_some, h1 _ (by omega), Option.bind_some, Option.bind_some, Option.bind_some, h2 _ (by omega), Option.bind_some, h5 _ (by omega), Option.bind_some, if_pos rfl]
  rw [laws_FnExactMapBetween.j0, if_neg (by simp), h3 _ (by omega), Option.bind_some, h4 _ (by omega), Option.bind_some, if_pos rfl, h10 _ (by omega), Option.bind_some, h11 _ (by omega), Option.bind_some, if_pos rfl, show (1 : Int) = ((1 : Nat) : Int) from rfl, h6 _ (by omega), Option.bind_some, h12 _ (by omega), Option.bind_some, if_neg (by omega), h5 _ (by omega), Option.bind_some, if_pos rfl]
  rw [laws_FnExactMapBetween.j1, if_neg (by simp), show (1 : Int) = ((1 : Nat) : Int) from rfl, h7 _ (by omega), Option.bind_some, h8 _ (by omega), Option.bind_some, if_neg (by omega), if_pos rfl, h3 _ (by omega), Option.bind_some, h10 _ (by omega), Option.bind_some, h2 _ (by omega), Option.bind_some, h5 _ (by omega), Option.bind_some, if_pos rfl]
  rw [laws_FnExactMapBetween.j2, if_neg (by simp), show (1 : Int) = ((1 : Nat) : Int) from rfl, h8 _ (by omega), Option.bind_some, if_neg (by omega), if_pos rfl]

end Go.Proofs.Ytpjhbhjmaggheaa.Pure
