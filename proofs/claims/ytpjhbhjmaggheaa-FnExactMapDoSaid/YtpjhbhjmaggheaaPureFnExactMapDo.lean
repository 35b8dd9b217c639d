/- The law FnExactMapDo, over numbers and lists: for every input that the statement speaks of the printed function answers true; conditions: those of the printed statement. -/
import Derived.Test.YtpjhbhjmaggheaaQFnExactMapDox1
import Derived.Test.YtpjhbhjmaggheaaQFnExactMapDox2
import Derived.Test.YtpjhbhjmaggheaaQFnExactMapDox3
import Derived.Test.YtpjhbhjmaggheaaQFnExactMapDox4
import Derived.Test.YtpjhbhjmaggheaaQFnExactMapDox5
import Derived.Test.YtpjhbhjmaggheaaQFnExactMapDox6
import Derived.Test.YtpjhbhjmaggheaaQFnExactMapDox7
import Derived.Test.YtpjhbhjmaggheaaQFnExactMapDox8
import Derived.Laws.BitsAllLaws
import Derived.Sort.Walk0
import Derived.Lib.Bytealg
namespace Go.Proofs.Ytpjhbhjmaggheaa.Pure
open Go.RowKit Go.Proofs.Ytpjhbhjmaggheaa.QFnExactMapDo Go.Proofs.YtpjhbhjmaggheaaW.PrintWords Go.Proofs.YtpjhbhjmaggheaaW.PrintLast Go.Proofs.YtpjhbhjmaggheaaW.PrintMore
set_option linter.unusedVariables false
set_option linter.unusedSimpArgs false

/-! ### strings as lists of bytes -/
def mk (l : List UInt8) : ByteArray := ⟨l.toArray⟩
def nm (l : List UInt8) : List Int := l.map fun b => (b.toNat : Int)
theorem mk_of (s : ByteArray) : ∃ l, s = mk l := ⟨s.data.toList, rfl⟩
theorem mk_data (l : List UInt8) : (mk l).data.toList = l := rfl
theorem mk_toList (l : List UInt8) : (mk l).toList = l := by rw [ByteArray.toList_eq]; rfl
theorem mk_size (l : List UInt8) : (mk l).size = l.length := List.size_toArray
theorem mk_inj {a b : List UInt8} (h : mk a = mk b) : a = b := by rw [← mk_data a, h]; rfl
theorem mk_append (a b : List UInt8) : mk a ++ mk b = mk (a ++ b) := by
  apply ByteArray.ext
  rw [ByteArray.data_append]
  simp [mk]
theorem mk_extract (l : List UInt8) (i j : Nat) : (mk l).extract i j = mk ((l.drop i).take (j - i)) := by
  apply ByteArray.ext
  rw [ByteArray.data_extract]
  apply Array.ext'
  simp [mk, List.take_drop]
theorem mk_nil : (⟨#[]⟩ : ByteArray) = mk [] := rfl
theorem nm_append (a b : List UInt8) : nm (a ++ b) = nm a ++ nm b := by simp [nm]
theorem nm_length (a : List UInt8) : (nm a).length = a.length := by simp [nm]
theorem nm_nil : ([] : List Int) = nm [] := rfl
theorem strOf_nm (l : List UInt8) : strOfNums (nm l) = mk l := by
  unfold strOfNums nm mk
  rw [List.map_map]
  congr 1
  have : ∀ l : List UInt8, List.map ((fun n : Int => UInt8.ofNat n.toNat) ∘ fun b : UInt8 => (b.toNat : Int)) l = l := by
    intro l
    induction l with
    | nil => rfl
    | cons a l ih => rw [List.map_cons, ih]; simp
  rw [this]
theorem bt_mk (l : List UInt8) (n : Nat) (h : n < l.length) : bt (mk l) (n : Int) = ((l[n]).toNat : Int) := by
  unfold bt
  rw [dif_pos (show (n : Int).toNat < (mk l).size by rw [mk_size]; omega)]
  rfl
/-- A fact that omega doesn't look into. -/
structure Hd (p : Prop) : Prop where
  mk :: (out : p)
theorem w64 {x : Int} (h0 : -9223372036854775808 ≤ x) (h1 : x ≤ 9223372036854775807) : wrap64 x = x := by
  unfold wrap64
  omega
theorem nm_u8 (n : Nat) (h : n < 256) : nm [UInt8.ofNat n] = [(n : Int)] := by
  simp [nm]
  omega
theorem tmod_nat (x d : Nat) : Int.tmod (x : Int) (d : Int) = ((x % d : Nat) : Int) := by
  rw [Int.tmod_eq_emod_of_nonneg (by omega)]
  exact (Int.natCast_emod x d).symm
theorem tdiv_nat (x d : Nat) : Int.tdiv (x : Int) (d : Int) = ((x / d : Nat) : Int) := by
  rw [Int.tdiv_eq_ediv_of_nonneg (by omega)]
  exact (Int.natCast_ediv x d).symm
theorem drop_cons (l : List UInt8) (i : Nat) (h : i < l.length) : l.drop i = l[i] :: l.drop (i + 1) := List.drop_eq_getElem_cons h
/-! ### the order of strings -/
theorem bless (a b : List UInt8) : Op.bytesLess a b = decide (a < b) := Proofs.bytesLess_eq a b
theorem cmpB_lt : ∀ a b : List UInt8, Lib.compareBytes a b < 0 ↔ a < b
  | [], [] => by simp [Lib.compareBytes]
  | [], _ :: _ => by simp [Lib.compareBytes]
  | _ :: _, [] => by simp [Lib.compareBytes]
  | a :: xs, b :: ys => by
    rw [List.cons_lt_cons_iff, ← cmpB_lt xs ys, Lib.compareBytes]
    by_cases h : a < b
    · simp [h]
    · by_cases h2 : b < a
      · have : a ≠ b := by rintro rfl; exact h h2
        simp [h, h2, this]
      · have : a = b := UInt8.le_antisymm (UInt8.not_lt.1 h2) (UInt8.not_lt.1 h)
        simp [this]
theorem cmpB_eq : ∀ a b : List UInt8, Lib.compareBytes a b = 0 ↔ a = b
  | [], [] => by simp [Lib.compareBytes]
  | [], _ :: _ => by simp [Lib.compareBytes]
  | _ :: _, [] => by simp [Lib.compareBytes]
  | a :: xs, b :: ys => by
    rw [List.cons_eq_cons, ← cmpB_eq xs ys, Lib.compareBytes]
    by_cases h : a < b
    · have : a ≠ b := by rintro rfl; exact UInt8.lt_irrefl _ h
      simp [h, this]
    · by_cases h2 : b < a
      · have : a ≠ b := by rintro rfl; exact h h2
        simp [h, h2, this]
      · have : a = b := UInt8.le_antisymm (UInt8.not_lt.1 h2) (UInt8.not_lt.1 h)
        simp [this]
theorem bl_trans {a b c : List UInt8} (h1 : a < b) (h2 : b < c) : a < c := List.lt_trans h1 h2
theorem bl_irrefl (a : List UInt8) : ¬ a < a := List.lt_irrefl a
theorem bl_tri (a b : List UInt8) : a < b ∨ a = b ∨ b < a := by
  by_cases h : a < b
  · exact Or.inl h
  · by_cases h2 : b < a
    · exact Or.inr (Or.inr h2)
    · exact Or.inr (Or.inl (List.le_antisymm (List.not_lt.1 h2) (List.not_lt.1 h)))
def bl (s : ByteArray) : List UInt8 := s.data.toList
theorem mk_bl (s : ByteArray) : mk (bl s) = s := rfl
theorem bl_len (s : ByteArray) : (bl s).length = s.size := rfl
theorem bl_inj {a b : ByteArray} (h : bl a = bl b) : a = b := by rw [← mk_bl a, h, mk_bl]
theorem bl_toList (a : ByteArray) : a.toList = bl a := ByteArray.toList_eq a
/-- C holds at i, i + 1, .., d of them. -/
def allF (C : Nat → Bool) : Nat → Nat → Bool
  | 0, _ => true
  | d + 1, i => C i && allF C d (i + 1)
theorem allF_congr {C D : Nat → Bool} (d : Nat) : ∀ i, (∀ j, i ≤ j → j < i + d → C j = D j) → allF C d i = allF D d i := by
  induction d with
  | zero => intro i h; rfl
  | succ d ih =>
    intro i h
    simp only [allF]
    rw [h i (by omega) (by omega), ih (i + 1) (fun j h1 h2 => h j (by omega) (by omega))]
theorem allF_true {C : Nat → Bool} (d : Nat) : ∀ i, allF C d i = true ↔ ∀ j, i ≤ j → j < i + d → C j = true := by
  induction d with
  | zero => intro i; simp only [allF, true_iff]; intro j h1 h2; omega
  | succ d ih =>
    intro i
    simp only [allF, Bool.and_eq_true, ih]
    constructor
    · rintro ⟨h1, h2⟩ j h3 h4
      by_cases e : j = i
      · rw [e]; exact h1
      · exact h2 j (by omega) (by omega)
    · intro h
      exact ⟨h i (by omega) (by omega), fun j h1 h2 => h j (by omega) (by omega)⟩
theorem ev_now {α : Type} {g : Nat → Option α} {r : α} (h : ∀ k, g (k + 1) = some r) : Ev g r :=
  ⟨1, fun k hk => by obtain ⟨m, rfl⟩ : ∃ m, k = m + 1 := ⟨k - 1, by omega⟩; exact h m⟩
/-- Place i of the list: its name's and its text's sizes, and its name above the one ahead. -/
def mapC (l : List S59) (i : Nat) : Bool :=
  decide (1 ≤ ((l.getD i z59).f0.size : Int) ∧ ((l.getD i z59).f0.size : Int) ≤ 10) && (decide (((l.getD i z59).f1.size : Int) ≤ 40) && (decide (i = 0) || Op.bytesLess (l.getD (i - 1) z59).f0.toList (l.getD i z59).f0.toList))
def mapCOf (l : List S59) : Bool := decide ((l.length : Int) ≤ 60) && allF (mapC l) l.length 0
/-- The names rise. -/
def srtMap (l : List S59) : Prop := ∀ i j, i < j → j < l.length → bl (l.getD i z59).f0 < bl (l.getD j z59).f0
theorem mapC_srt {l : List S59} (h : mapCOf l = true) : srtMap l ∧ (l.length : Int) ≤ 60 ∧ ∀ i, i < l.length → (1 ≤ (l.getD i z59).f0.size ∧ (l.getD i z59).f0.size ≤ 10) ∧ (l.getD i z59).f1.size ≤ 40 := by
  unfold mapCOf at h
  simp only [Bool.and_eq_true, decide_eq_true_eq] at h
  have hC : ∀ i, i < l.length → mapC l i = true := fun i hi => (allF_true _ _).1 h.2 i (by omega) (by omega)
  have hadj : ∀ i, 0 < i → i < l.length → bl (l.getD (i - 1) z59).f0 < bl (l.getD i z59).f0 := fun i h0 hi => by
    have := hC i hi
    unfold mapC at this
    simp only [Bool.and_eq_true, Bool.or_eq_true, decide_eq_true_eq] at this
    have h2 := this.2.2.resolve_left (by omega)
    rw [bless, decide_eq_true_eq, ByteArray.toList_eq, ByteArray.toList_eq] at h2
    exact h2
  refine ⟨fun i j hij hj => ?_, h.1, fun i hi => ?_⟩
  · induction j with
    | zero => omega
    | succ j ih =>
      have hA := hadj (j + 1) (by omega) hj
      rw [Nat.add_sub_cancel] at hA
      by_cases e : i = j
      · rw [e]; exact hA
      · exact bl_trans (ih (by omega) (by omega)) hA
  · have := hC i hi
    unfold mapC at this
    simp only [Bool.and_eq_true, decide_eq_true_eq] at this
    omega
/-! ### parts of lists -/
theorem filter_take {α : Type} (p : α → Bool) (l : List α) (c : Nat) (h1 : ∀ t (h : t < l.length), t < c → p l[t] = true) (h2 : ∀ t (h : t < l.length), c ≤ t → p l[t] = false) : l.filter p = l.take c := by
  conv => lhs; rw [← List.take_append_drop c l]
  rw [List.filter_append, List.filter_eq_self.2, List.filter_eq_nil_iff.2, List.append_nil]
  · intro a ha
    obtain ⟨i, hi, rfl⟩ := List.mem_iff_getElem.1 ha
    rw [List.getElem_drop]
    rw [h2 _ _ (by omega)]
    simp
  · intro a ha
    obtain ⟨i, hi, rfl⟩ := List.mem_iff_getElem.1 ha
    rw [List.getElem_take]
    rw [List.length_take] at hi
    exact h1 _ _ (by omega)
theorem filter_drop {α : Type} (p : α → Bool) (l : List α) (c : Nat) (h1 : ∀ t (h : t < l.length), t < c → p l[t] = false) (h2 : ∀ t (h : t < l.length), c ≤ t → p l[t] = true) : l.filter p = l.drop c := by
  conv => lhs; rw [← List.take_append_drop c l]
  rw [List.filter_append, List.filter_eq_nil_iff.2, List.filter_eq_self.2, List.nil_append]
  · intro a ha
    obtain ⟨i, hi, rfl⟩ := List.mem_iff_getElem.1 ha
    rw [List.getElem_drop]
    exact h2 _ _ (by omega)
  · intro a ha
    obtain ⟨i, hi, rfl⟩ := List.mem_iff_getElem.1 ha
    rw [List.getElem_take]
    rw [List.length_take] at hi
    rw [h1 _ _ (by omega)]
    simp
theorem filter_two {α : Type} (p q : α → Bool) (h : ∀ y, p y = true → q y = true → False) : ∀ l : List α, (l.filter p).length + (l.filter q).length ≤ l.length
  | [] => by simp
  | a :: l => by
    have := filter_two p q h l
    rw [List.filter_cons, List.filter_cons]
    by_cases hp : p a = true
    · by_cases hq : q a = true
      · exact absurd hq (fun hq => h a hp hq)
      · rw [if_pos hp, if_neg hq]
        simp only [List.length_cons]
        omega
    · rw [if_neg hp]
      by_cases hq : q a = true
      · rw [if_pos hq]
        simp only [List.length_cons]
        omega
      · rw [if_neg hq]
        simp only [List.length_cons]
        omega
/-- Two rising lists with the same members are one. -/
theorem rise_ext {α : Type} (lt : α → α → Prop) (irr : ∀ a, ¬ lt a a) (tr : ∀ a b c, lt a b → lt b c → lt a c) : ∀ {l m : List α}, l.Pairwise lt → m.Pairwise lt → (∀ x, x ∈ l ↔ x ∈ m) → l = m
  | [], [], _, _, _ => rfl
  | [], b :: m, _, _, h => absurd ((h b).2 List.mem_cons_self) (by simp)
  | a :: l, [], _, _, h => absurd ((h a).1 List.mem_cons_self) (by simp)
  | a :: l, b :: m, hl, hm, h => by
    rw [List.pairwise_cons] at hl hm
    have e : a = b := by
      rcases List.mem_cons.1 ((h a).1 List.mem_cons_self) with e | e
      · exact e
      · rcases List.mem_cons.1 ((h b).2 List.mem_cons_self) with e2 | e2
        · exact e2.symm
        · exact absurd (tr _ _ _ (hl.1 _ e2) (hm.1 _ e)) (irr _)
    subst e
    rw [rise_ext lt irr tr hl.2 hm.2 fun x => ⟨fun hx => ?_, fun hx => ?_⟩]
    · rcases List.mem_cons.1 ((h x).1 (List.mem_cons_of_mem _ hx)) with e | e
      · rw [e] at hx
        exact absurd (hl.1 _ hx) (irr _)
      · exact e
    · rcases List.mem_cons.1 ((h x).2 (List.mem_cons_of_mem _ hx)) with e | e
      · rw [e] at hx
        exact absurd (hm.1 _ hx) (irr _)
      · exact e
/-! ### a name put in, a name taken out: Map -/
def ltMap (x y : S59) : Prop := bl x.f0 < bl y.f0
theorem srtMap_iff (l : List S59) : srtMap l ↔ l.Pairwise ltMap := by
  rw [List.pairwise_iff_getElem]
  have e : ∀ i (h : i < l.length), l.getD i z59 = l[i] := fun i h => by simp [List.getD_eq_getElem?_getD, List.getElem?_eq_getElem h]
  constructor
  · intro h i j hi hj hij
    have := h i j hij hj
    rw [e i hi, e j hj] at this
    exact this
  · intro h i j hij hj
    rw [e i (by omega), e j hj]
    exact h i j (by omega) hj hij
theorem ltMap_irr (a : S59) : ¬ ltMap a a := bl_irrefl _
theorem ltMap_tr (a b c : S59) (h1 : ltMap a b) (h2 : ltMap b c) : ltMap a c := bl_trans h1 h2
theorem extMap {l m : List S59} (hl : srtMap l) (hm : srtMap m) (h : ∀ x, x ∈ l ↔ x ∈ m) : l = m :=
  rise_ext ltMap ltMap_irr ltMap_tr ((srtMap_iff l).1 hl) ((srtMap_iff m).1 hm) h
def putMap (l : List S59) (x : S59) : List S59 := l.filter (fun y => decide (bl y.f0 < bl x.f0)) ++ [x] ++ l.filter (fun y => decide (bl x.f0 < bl y.f0))
def cutMap (l : List S59) (a : ByteArray) : List S59 := l.filter (fun y => decide (y.f0 ≠ a))
theorem mem_putMap (l : List S59) (x y : S59) : y ∈ putMap l x ↔ y = x ∨ (y ∈ l ∧ y.f0 ≠ x.f0) := by
  unfold putMap
  simp only [List.mem_append, List.mem_filter, List.mem_singleton, decide_eq_true_eq]
  constructor
  · rintro ((⟨h1, h2⟩ | h) | ⟨h1, h2⟩)
    · exact Or.inr ⟨h1, fun e => bl_irrefl _ (by rw [e] at h2; exact h2)⟩
    · exact Or.inl h
    · exact Or.inr ⟨h1, fun e => bl_irrefl _ (by rw [e] at h2; exact h2)⟩
  · rintro (h | ⟨h1, h2⟩)
    · exact Or.inl (Or.inr h)
    · rcases bl_tri (bl y.f0) (bl x.f0) with e | e | e
      · exact Or.inl (Or.inl ⟨h1, e⟩)
      · exact absurd (bl_inj e) h2
      · exact Or.inr ⟨h1, e⟩
theorem mem_cutMap (l : List S59) (a : ByteArray) (y : S59) : y ∈ cutMap l a ↔ y ∈ l ∧ y.f0 ≠ a := by
  unfold cutMap
  simp [List.mem_filter]
theorem putMap_srt {l : List S59} (h : srtMap l) (x : S59) : srtMap (putMap l x) := by
  rw [srtMap_iff] at h ⊢
  unfold putMap
  rw [List.pairwise_append, List.pairwise_append]
  refine ⟨⟨h.filter _, List.pairwise_singleton _ _, fun a ha b hb => ?_⟩, h.filter _, fun a ha b hb => ?_⟩
  · rw [List.mem_singleton] at hb
    subst hb
    show bl a.f0 < bl b.f0
    exact of_decide_eq_true (List.mem_filter.1 ha).2
  · have hb := (List.mem_filter.1 hb).2
    rw [decide_eq_true_eq] at hb
    rcases List.mem_append.1 ha with ha | ha
    · have ha := (List.mem_filter.1 ha).2
      rw [decide_eq_true_eq] at ha
      exact bl_trans ha hb
    · rw [List.mem_singleton] at ha
      subst ha
      exact hb
theorem cutMap_srt {l : List S59} (h : srtMap l) (a : ByteArray) : srtMap (cutMap l a) := by
  rw [srtMap_iff] at h ⊢
  exact h.filter _
theorem getI_Map (l : List S59) (i : Nat) (h : i < l.length) : l.getD i z59 = l[i] := by simp [List.getD_eq_getElem?_getD, List.getElem?_eq_getElem h]
theorem putMap_at {l : List S59} (h : srtMap l) (x : S59) (p : Nat) (hp : p < l.length) (he : (l.getD p z59).f0 = x.f0) : putMap l x = l.set p x := by
  have hlt : ∀ t (ht : t < l.length), t < p → bl l[t].f0 < bl x.f0 := fun t ht htp => by
    have := h t p htp hp
    rw [he, getI_Map l t ht] at this
    exact this
  have hgt : ∀ t (ht : t < l.length), p < t → bl x.f0 < bl l[t].f0 := fun t ht htp => by
    have := h p t htp ht
    rw [he, getI_Map l t ht] at this
    exact this
  have heq : bl l[p].f0 = bl x.f0 := by rw [← he, getI_Map l p hp]
  unfold putMap
  have hn1 : ∀ t (ht : t < l.length), p ≤ t → ¬ bl l[t].f0 < bl x.f0 := fun t ht htp hc => by
    by_cases e : t = p
    · subst e
      rw [heq] at hc
      exact bl_irrefl _ hc
    · exact bl_irrefl _ (bl_trans hc (hgt t ht (by omega)))
  have hn2 : ∀ t (ht : t < l.length), t < p + 1 → ¬ bl x.f0 < bl l[t].f0 := fun t ht htp hc => by
    by_cases e : t = p
    · subst e
      rw [heq] at hc
      exact bl_irrefl _ hc
    · exact bl_irrefl _ (bl_trans hc (hlt t ht (by omega)))
  rw [filter_take _ l p (fun t ht htp => decide_eq_true (hlt t ht htp)) (fun t ht htp => decide_eq_false (hn1 t ht htp)),
    filter_drop _ l (p + 1) (fun t ht htp => decide_eq_false (hn2 t ht htp)) (fun t ht htp => decide_eq_true (hgt t ht (by omega))), List.set_eq_take_append_cons_drop, if_pos hp, List.append_assoc, List.singleton_append]
theorem putMap_new {l : List S59} (x : S59) (c : Nat) (hc : c ≤ l.length) (h1 : ∀ t, t < c → bl (l.getD t z59).f0 < bl x.f0) (h2 : ∀ t, c ≤ t → t < l.length → bl x.f0 < bl (l.getD t z59).f0) : putMap l x = l.take c ++ [x] ++ l.drop c := by
  unfold putMap
  have hn1 : ∀ t (ht : t < l.length), c ≤ t → ¬ bl l[t].f0 < bl x.f0 := fun t ht htp hc => by
    rw [← getI_Map l t ht] at hc
    exact bl_irrefl _ (bl_trans hc (h2 t htp ht))
  have hn2 : ∀ t (ht : t < l.length), t < c → ¬ bl x.f0 < bl l[t].f0 := fun t ht htp hc => by
    rw [← getI_Map l t ht] at hc
    exact bl_irrefl _ (bl_trans hc (h1 t htp))
  rw [filter_take _ l c (fun t ht htp => decide_eq_true (by rw [← getI_Map l t ht]; exact h1 t htp)) (fun t ht htp => decide_eq_false (hn1 t ht htp)),
    filter_drop _ l c (fun t ht htp => decide_eq_false (hn2 t ht htp)) (fun t ht htp => decide_eq_true (by rw [← getI_Map l t ht]; exact h2 t htp ht))]
theorem cutMap_at {l : List S59} (h : srtMap l) (a : ByteArray) (p : Nat) (hp : p < l.length) (he : (l.getD p z59).f0 = a) : cutMap l a = l.eraseIdx p := by
  refine extMap (cutMap_srt h a) ?_ fun x => ?_
  · rw [srtMap_iff] at h ⊢
    exact h.sublist (List.eraseIdx_sublist _ _)
  · rw [mem_cutMap, List.mem_eraseIdx_iff_getElem]
    rw [getI_Map l p hp] at he
    constructor
    · rintro ⟨h1, h2⟩
      obtain ⟨i, hi, rfl⟩ := List.mem_iff_getElem.1 h1
      exact ⟨i, hi, fun e => h2 (by subst e; exact he), rfl⟩
    · rintro ⟨i, hi, hne, rfl⟩
      refine ⟨List.getElem_mem hi, fun e => ?_⟩
      have e2 : bl l[i].f0 = bl l[p].f0 := by rw [e, he]
      rcases Nat.lt_or_gt_of_ne hne with hlt | hlt
      · have := h i p hlt hp
        rw [getI_Map l p hp, getI_Map l i hi, e2] at this
        exact bl_irrefl _ this
      · have := h p i hlt hi
        rw [getI_Map l p hp, getI_Map l i hi, e2] at this
        exact bl_irrefl _ this
theorem cutMap_none {l : List S59} (a : ByteArray) (hn : ∀ p, p < l.length → (l.getD p z59).f0 ≠ a) : cutMap l a = l := by
  unfold cutMap
  refine List.filter_eq_self.2 fun x hx => ?_
  obtain ⟨i, hi, rfl⟩ := List.mem_iff_getElem.1 hx
  have := hn i hi
  rw [getI_Map l i hi] at this
  simpa using this
theorem putMap_len (l : List S59) (x : S59) : (putMap l x).length ≤ l.length + 1 := by
  unfold putMap
  rw [List.length_append, List.length_append]
  have := filter_two (fun y : S59 => decide (bl y.f0 < bl x.f0)) (fun y : S59 => decide (bl x.f0 < bl y.f0)) (fun y h1 h2 => bl_irrefl _ (bl_trans (of_decide_eq_true h1) (of_decide_eq_true h2))) l
  simp only [List.length_cons, List.length_nil]
  omega
theorem cutMap_len (l : List S59) (a : ByteArray) : (cutMap l a).length ≤ l.length := List.length_filter_le _ _
def chC (l : List S109) (i : Nat) : Bool :=
  decide (1 ≤ ((l.getD i z109).f0.size : Int) ∧ ((l.getD i z109).f0.size : Int) ≤ 10) && decide (¬ ((l.getD i z109).f1.size : Int) > 40) &&
    (!(l.getD i z109).f2 || decide ((l.getD i z109).f1.toList = [])) && (decide (i = 0) || Op.bytesLess (l.getD (i - 1) z109).f0.toList (l.getD i z109).f0.toList)
def batchOf (a : Int) (l : List S109) : Bool := decide (0 ≤ a ∧ a ≤ 100000) && decide (¬ (l.length : Int) > 60) && allF (chC l) l.length 0
theorem rdI_Change (l : List S109) (n : Nat) (h : n < l.length) : rd_T109 l (n : Int) = l[n] := by
  show l.getD n z109 = _
  simp [List.getD_eq_getElem?_getD, List.getElem?_eq_getElem h]
def doOne (m : List S59) (c : S109) : List S59 := if c.f2 = true then cutMap m c.f0 else putMap m ⟨c.f0, c.f1⟩
def doAll (m : List S59) (cs : List S109) : List S59 := cs.foldl doOne m
theorem doOne_srt {m : List S59} (h : srtMap m) (c : S109) : srtMap (doOne m c) := by
  unfold doOne
  split
  · exact cutMap_srt h _
  · exact putMap_srt h _
theorem doOne_len (m : List S59) (c : S109) : (doOne m c).length ≤ m.length + 1 := by
  unfold doOne
  have h1 := cutMap_len m c.f0
  split
  · omega
  · exact putMap_len _ _
theorem doAll_srt (cs : List S109) : ∀ {m : List S59}, srtMap m → srtMap (doAll m cs) := by
  induction cs with
  | nil => exact fun h => h
  | cons c cs ih => exact fun h => ih (doOne_srt h c)
theorem doAll_len (cs : List S109) : ∀ (m : List S59), (doAll m cs).length ≤ m.length + cs.length := by
  induction cs with
  | nil => exact fun m => Nat.le_refl _
  | cons c cs ih =>
    intro m
    have h1 := ih (doOne m c)
    have h2 := doOne_len m c
    show (doAll (doOne m c) cs).length ≤ _
    simp only [List.length_cons]
    omega
def mapEnd (m : List S59) : List S59 × Bool := if mapCOf m = true then (m, true) else ([], false)
/-- What MapDo answers. -/
def mapDoOf (m : List S59) (v : Int) (cs : List S109) : List S59 × Bool := if mapCOf m = true ∧ batchOf v cs = true then mapEnd (doAll m cs) else ([], false)
theorem mapEnd_len (m : List S59) : (mapEnd m).1.length ≤ 60 := by
  unfold mapEnd
  by_cases h : mapCOf m = true
  · rw [if_pos h]
    have := (mapC_srt h).2.1
    show m.length ≤ 60
    omega
  · rw [if_neg h]; simp
theorem mapDoOf_len (m : List S59) (v : Int) (cs : List S109) : (mapDoOf m v cs).1.length ≤ 60 := by
  unfold mapDoOf
  split
  · exact mapEnd_len _
  · simp
theorem batchOf_len {v : Int} {cs : List S109} (h : batchOf v cs = true) : cs.length ≤ 60 := by
  unfold batchOf at h
  simp only [Bool.and_eq_true, decide_eq_true_eq] at h
  omega
theorem impl_pairNo.cmp_eq (l : List S59) (a : ByteArray) (i : Nat) : impl_pairNo.cmp l a i = Lib.compareBytes (bl (l.getD i z59).f0) (bl a) := rfl
theorem impl_pairNo.mono_of {l : List S59} (h : srtMap l) (hl : (l.length : Int) ≤ 1048576) (a : ByteArray) : impl_pairNo.mono0 l a = true := by
  unfold impl_pairNo.mono0
  simp only [Bool.and_eq_true, decide_eq_true_eq, List.all_eq_true, List.mem_range, Bool.or_eq_true, Bool.not_eq_true', decide_eq_false_iff_not]
  refine ⟨by omega, fun b hb i hi => ?_⟩
  by_cases hc : impl_pairNo.cmp l a b < 0
  · right
    rw [impl_pairNo.cmp_eq, cmpB_lt] at hc ⊢
    by_cases e : i = b
    · rw [e]; exact hc
    · exact bl_trans (h i b (by omega) hb) hc
  · exact Or.inl hc
theorem impl_pairNo.found {l : List S59} (h : srtMap l) (hl : (l.length : Int) ≤ 1048576) (a : ByteArray) (p : Nat) (hp : p < l.length) (he : (l.getD p z59).f0 = a) : impl_pairNo.f l a = some ((p : Int), true) := by
  have hcnt : impl_pairNo.cnt l a = p := impl_pairNo.cnt_eq p (by omega) (fun t ht => by
    rw [impl_pairNo.cmp_eq, cmpB_lt, ← he]
    exact h t p ht hp) (fun t h1 h2 => Int.not_lt.1 fun hc => by
    rw [impl_pairNo.cmp_eq, cmpB_lt, ← he] at hc
    by_cases e : p = t
    · rw [e] at hc; exact bl_irrefl _ hc
    · exact bl_irrefl _ (bl_trans hc (h p t (by omega) h2)))
  unfold impl_pairNo.f
  rw [if_pos (impl_pairNo.mono_of h hl a), hcnt, decide_eq_true hp, impl_pairNo.cmp_eq, he, decide_eq_true ((cmpB_eq _ _).2 rfl)]
  rfl
/-- The place behind the names that are below a. -/
theorem splitMap (l : List S59) (h : srtMap l) (a : ByteArray) : ∃ c, c ≤ l.length ∧ (∀ t, t < c → bl (l.getD t z59).f0 < bl a) ∧ (∀ t, c ≤ t → t < l.length → ¬ bl (l.getD t z59).f0 < bl a) := by
  have : ∀ n, n ≤ l.length → ∃ c, c ≤ n ∧ (∀ t, t < c → bl (l.getD t z59).f0 < bl a) ∧ (∀ t, c ≤ t → t < n → ¬ bl (l.getD t z59).f0 < bl a) := by
    intro n
    induction n with
    | zero => exact fun _ => ⟨0, by omega, fun t ht => by omega, fun t h1 h2 => by omega⟩
    | succ n ih =>
      intro hn
      obtain ⟨c, h1, h2, h3⟩ := ih (by omega)
      by_cases hc : bl (l.getD n z59).f0 < bl a
      · refine ⟨n + 1, by omega, fun t ht => ?_, fun t h1 h2 => by omega⟩
        by_cases e : t = n
        · rw [e]; exact hc
        · exact bl_trans (h t n (by omega) (by omega)) hc
      · refine ⟨c, by omega, h2, fun t h4 h5 => ?_⟩
        by_cases e : t = n
        · rw [e]; exact hc
        · exact h3 t h4 (by omega)
  exact this l.length (Nat.le_refl _)
theorem impl_pairNo.none_ {l : List S59} (h : srtMap l) (hl : (l.length : Int) ≤ 1048576) (a : ByteArray) (hn : ∀ p, p < l.length → (l.getD p z59).f0 ≠ a) :
    ∃ c, c ≤ l.length ∧ impl_pairNo.f l a = some ((c : Int), false) ∧ (∀ t, t < c → bl (l.getD t z59).f0 < bl a) ∧ (∀ t, c ≤ t → t < l.length → bl a < bl (l.getD t z59).f0) := by
  obtain ⟨c, h1, h2, h3⟩ := splitMap l h a
  have hcnt : impl_pairNo.cnt l a = c := impl_pairNo.cnt_eq c h1 (fun t ht => by
    rw [impl_pairNo.cmp_eq, cmpB_lt]
    exact h2 t ht) (fun t h4 h5 => Int.not_lt.1 fun hc => by
    rw [impl_pairNo.cmp_eq, cmpB_lt] at hc
    exact h3 t h4 h5 hc)
  refine ⟨c, h1, ?_, h2, fun t h4 h5 => ?_⟩
  · unfold impl_pairNo.f
    rw [if_pos (impl_pairNo.mono_of h hl a), hcnt]
    by_cases hc : c < l.length
    · rw [impl_pairNo.cmp_eq, decide_eq_false (p := Lib.compareBytes _ _ = 0) (fun e => hn c hc (bl_inj ((cmpB_eq _ _).1 e))), Bool.and_false]
    · rw [decide_eq_false hc, Bool.false_and]
  · rcases bl_tri (bl a) (bl (l.getD t z59).f0) with e | e | e
    · exact e
    · exact absurd (bl_inj e).symm (hn t h5)
    · exact absurd e (h3 t h4 h5)
/-- The first place from i on with a's name; -1. -/
def posMap (l : List S59) (a : ByteArray) : Nat → Nat → Int
  | 0, _ => -1
  | d + 1, i => if (l.getD i z59).f0 = a then (i : Int) else posMap l a d (i + 1)
theorem posMap_cases (l : List S59) (a : ByteArray) (d : Nat) : ∀ i, (∃ p, i ≤ p ∧ p < i + d ∧ (l.getD p z59).f0 = a ∧ posMap l a d i = (p : Int)) ∨ ((∀ p, i ≤ p → p < i + d → (l.getD p z59).f0 ≠ a) ∧ posMap l a d i = -1) := by
  induction d with
  | zero => exact fun i => Or.inr ⟨fun p h1 h2 => by omega, rfl⟩
  | succ d ih =>
    intro i
    by_cases e : (l.getD i z59).f0 = a
    · exact Or.inl ⟨i, by omega, by omega, e, by rw [posMap, if_pos e]⟩
    · rcases ih (i + 1) with ⟨p, h1, h2, h3, h4⟩ | ⟨h1, h2⟩
      · exact Or.inl ⟨p, by omega, by omega, h3, by rw [posMap, if_neg e, h4]⟩
      · refine Or.inr ⟨fun p h3 h4 => ?_, by rw [posMap, if_neg e, h2]⟩
        by_cases ep : p = i
        · rw [ep]; exact e
        · exact h1 p (by omega) (by omega)
theorem impl_withKey.is (l : List S59) (h : srtMap l) (hs : l.length ≤ 1048575) (a b : ByteArray) : impl_withKey.f l a b = some (putMap l ⟨a, b⟩) := by
  unfold impl_withKey.f
  rw [if_pos (by simp; omega), Option.bind_some, List.nil_append]
  rcases posMap_cases l a l.length 0 with ⟨p, h1, h2, h3, h4⟩ | ⟨h1, h2⟩
  · have hp : p < l.length := by omega
    rw [impl_pairNo.found h (by omega) a p hp h3, Option.bind_some, if_pos rfl, if_pos (show (0 : Int) ≤ (p : Int) by omega), if_pos (show (p : Int) < (l.length : Int) by omega), putMap_at h ⟨a, b⟩ p hp h3]
    have e : rd_T59 l (p : Int) = l.getD p z59 := rfl
    rw [e, h3]
    rfl
  · obtain ⟨c, hc, hf, h5, h6⟩ := impl_pairNo.none_ h (by omega) a (fun p hp => h1 p (by omega) (by omega))
    rw [hf, Option.bind_some, if_neg (show ¬ (false = true) by decide)]
    unfold impl_Pair_112.f
    rw [if_pos ⟨by omega, by omega, rfl, by omega⟩, Option.bind_some, putMap_new ⟨a, b⟩ c hc h5 h6]
    rfl
theorem impl_withoutKey.is (l : List S59) (h : srtMap l) (hs : l.length ≤ 1048575) (a : ByteArray) : impl_withoutKey.f l a = some (cutMap l a) := by
  unfold impl_withoutKey.f
  rw [if_pos (by simp; omega), Option.bind_some, List.nil_append]
  rcases posMap_cases l a l.length 0 with ⟨p, h1, h2, h3, h4⟩ | ⟨h1, h2⟩
  · have hp : p < l.length := by omega
    rw [impl_pairNo.found h (by omega) a p hp h3, Option.bind_some, if_pos rfl, cutMap_at h a p hp h3]
    have e : wrap64 ((p : Int) + 1) = (p : Int) + 1 := w64 (by omega) (by omega)
    unfold impl_Pair_111.f
    rw [e, if_pos ⟨by omega, rfl, by omega⟩, Option.bind_some]
    rfl
  · obtain ⟨c, hc, hf, h5, h6⟩ := impl_pairNo.none_ h (by omega) a (fun p hp => h1 p (by omega) (by omega))
    rw [hf, Option.bind_some, if_neg (show ¬ (false = true) by decide), cutMap_none a (fun p hp => h1 p (by omega) (by omega))]
theorem impl_within.is (a lo hi : Int) : impl_within.f a lo hi = some (decide (lo ≤ a ∧ a ≤ hi)) := by
  unfold impl_within.f
  by_cases h : a ≥ lo
  · rw [if_pos h]
    congr 1
    simp only [decide_eq_decide]
    exact ⟨fun h' => ⟨h, h'⟩, fun h' => h'.2⟩
  · rw [if_neg h, decide_eq_false (fun h' => h h'.1)]
theorem impl_keyOk.is (s : ByteArray) : impl_keyOk.f s = some (decide (1 ≤ (s.size : Int) ∧ (s.size : Int) ≤ 10)) := by
  unfold impl_keyOk.f
  rw [impl_within.is, Option.bind_some]
theorem impl_MapOk.ev0 (l : List S59) (hs : l.length ≤ 1048576) (d : Nat) : ∀ (i : Nat), i + d = l.length →
    Ev (fun k => impl_MapOk.l0 k l l (l.length : Int) (i : Int)) (allF (mapC l) d i && decide ((l.length : Int) ≤ 60)) := by
  induction d with
  | zero =>
    intro i hi
    refine ev_now fun k => ?_
    show impl_MapOk.l0 (k + 1) _ _ _ _ = _
    rw [impl_MapOk.l0, if_neg (by omega)]
    simp [allF]
  | succ d ih =>
    intro i hi
    have e0 : rd_T59 l (i : Int) = l.getD i z59 := rfl
    by_cases h1 : 1 ≤ ((l.getD i z59).f0.size : Int) ∧ ((l.getD i z59).f0.size : Int) ≤ 10
    · by_cases hv : ((l.getD i z59).f1.size : Int) ≤ 40
      · by_cases h2 : i = 0
        · have hC : mapC l i = true := by simp only [mapC, decide_eq_true h1, decide_eq_true hv, decide_eq_true h2, Bool.true_or, Bool.and_true]
          simp only [allF, hC, Bool.true_and]
          refine Ev.step (fun k => ?_) (ih (i + 1) (by omega))
          show impl_MapOk.l0 (k + 1) _ _ _ _ = impl_MapOk.l0 k _ _ _ _
          rw [impl_MapOk.l0, if_pos (by omega), if_pos (by omega), if_pos (by omega), e0, impl_keyOk.is, decide_eq_true h1]
          simp only [Option.bind_some, if_true]
          rw [if_neg (by omega), if_neg (by omega), w64 (by omega) (by omega)]
          rfl
        · have e2 : Hd (wrap64 ((i : Int) - 1) = ((i - 1 : Nat) : Int)) := Hd.mk <| by rw [w64 (by omega) (by omega)]; omega
          have e1 : rd_T59 l ((i - 1 : Nat) : Int) = l.getD (i - 1) z59 := rfl
          by_cases h3 : Op.bytesLess (l.getD (i - 1) z59).f0.toList (l.getD i z59).f0.toList = true
          · have hC : mapC l i = true := by simp only [mapC, decide_eq_true h1, decide_eq_true hv, h3, Bool.or_true, Bool.and_true]
            simp only [allF, hC, Bool.true_and]
            refine Ev.step (fun k => ?_) (ih (i + 1) (by omega))
            show impl_MapOk.l0 (k + 1) _ _ _ _ = impl_MapOk.l0 k _ _ _ _
            rw [impl_MapOk.l0, if_pos (by omega), if_pos (by omega), if_pos (by omega), e0, impl_keyOk.is, decide_eq_true h1]
            simp only [Option.bind_some, if_true]
            rw [if_neg (by omega), if_pos (by omega), e2.out, if_pos (by omega), if_pos (by omega), e1, if_pos h3, w64 (x := (i : Int) + 1) (by omega) (by omega)]
            rfl
          · have hC : mapC l i = false := by simp only [mapC, decide_eq_true h1, decide_eq_true hv, Bool.eq_false_iff.2 h3, decide_eq_false h2, Bool.or_false, Bool.and_false]
            simp only [allF, hC, Bool.false_and]
            refine ev_now fun k => ?_
            show impl_MapOk.l0 (k + 1) _ _ _ _ = _
            rw [impl_MapOk.l0, if_pos (by omega), if_pos (by omega), if_pos (by omega), e0, impl_keyOk.is, decide_eq_true h1]
            simp only [Option.bind_some, if_true]
            rw [if_neg (by omega), if_pos (by omega), e2.out, if_pos (by omega), if_pos (by omega), e1, if_neg h3]
      · have hC : mapC l i = false := by simp only [mapC, decide_eq_false hv, Bool.false_and, Bool.and_false]
        simp only [allF, hC, Bool.false_and]
        refine ev_now fun k => ?_
        show impl_MapOk.l0 (k + 1) _ _ _ _ = _
        rw [impl_MapOk.l0, if_pos (by omega), if_pos (by omega), if_pos (by omega), e0, impl_keyOk.is, decide_eq_true h1]
        simp only [Option.bind_some, if_true]
        rw [if_pos (by omega)]
    · have hC : mapC l i = false := by simp only [mapC, decide_eq_false h1, Bool.false_and]
      simp only [allF, hC, Bool.false_and]
      refine ev_now fun k => ?_
      show impl_MapOk.l0 (k + 1) _ _ _ _ = _
      rw [impl_MapOk.l0, if_pos (by omega), if_pos (by omega), if_pos (by omega), e0, impl_keyOk.is, decide_eq_false h1]
      simp
theorem impl_MapOk.ev (l : List S59) (hs : l.length ≤ 1048576) : Ev (fun k => impl_MapOk.f k l) (mapCOf l) := by
  unfold mapCOf
  obtain ⟨K, h⟩ := impl_MapOk.ev0 l hs l.length 0 (by omega)
  rw [Bool.and_comm]
  exact ⟨K, fun k hk => h k hk⟩
theorem loop_all {F : Nat → Nat → Option Bool} {C : Nat → Bool} {n : Nat} {fin : Bool} (step : ∀ k i, i < n → F (k + 1) i = if C i = true then F k (i + 1) else some false)
    (stop : Ev (fun k => F k n) fin) (d : Nat) : ∀ i, i + d = n → Ev (fun k => F k i) (allF C d i && fin) := by
  induction d with
  | zero =>
    intro i hi
    obtain rfl : i = n := by omega
    rw [allF, Bool.true_and]
    exact stop
  | succ d ih =>
    intro i hi
    by_cases hC : C i = true
    · rw [allF, hC, Bool.true_and]
      exact Ev.step (fun k => by rw [step k i (by omega), if_pos hC]) (ih (i + 1) (by omega))
    · rw [allF, Bool.eq_false_iff.2 hC, Bool.false_and, Bool.false_and]
      exact ev_now fun k => by rw [step k i (by omega), if_neg hC]
theorem impl_BatchOk.step (a : Int) (l : List S109) (hs : l.length ≤ 1048576) (k i : Nat) (hlt : i < l.length) :
    impl_BatchOk.l0 (k + 1) l (l.length : Int) (i : Int) a l = if chC l i = true then impl_BatchOk.l0 k l (l.length : Int) ((i + 1 : Nat) : Int) a l else some false := by
  have e0 : rd_T109 l (i : Int) = l.getD i z109 := rfl
  have e3 : Hd (wrap64 ((i : Int) + 1) = ((i + 1 : Nat) : Int)) := Hd.mk <| by rw [w64 (by omega) (by omega)]; rfl
  have e2 : Hd (0 < i → wrap64 ((i : Int) - 1) = ((i - 1 : Nat) : Int)) := Hd.mk fun h => by rw [w64 (by omega) (by omega)]; omega
  rw [impl_BatchOk.l0, if_pos (by omega), if_pos (by omega), if_pos (by omega), e0, impl_keyOk.is, Option.bind_some, e3.out]
  by_cases h2 : i = 0
  · simp only [if_neg (show ¬ ((i : Int) > 0) by omega)]
    unfold chC
    generalize l.getD i z109 = x
    generalize impl_BatchOk.l0 k l (l.length : Int) ((i + 1 : Nat) : Int) a l = R
    by_cases h1 : 1 ≤ (x.f0.size : Int) ∧ (x.f0.size : Int) ≤ 10 <;> by_cases hv : (x.f1.size : Int) > 40 <;> by_cases hg : x.f2 = true <;> by_cases he : x.f1.toList = [] <;> simp [h1, hv, hg, he, h2]
  · have e1 : rd_T109 l ((i - 1 : Nat) : Int) = l.getD (i - 1) z109 := rfl
    simp only [if_pos (show ((i : Int) > 0) by omega), e2.out (by omega), if_pos (show (0 : Int) ≤ ((i - 1 : Nat) : Int) by omega), if_pos (show ((i - 1 : Nat) : Int) < (l.length : Int) by omega), e1]
    unfold chC
    generalize l.getD i z109 = x
    generalize l.getD (i - 1) z109 = y
    generalize impl_BatchOk.l0 k l (l.length : Int) ((i + 1 : Nat) : Int) a l = R
    by_cases h1 : 1 ≤ (x.f0.size : Int) ∧ (x.f0.size : Int) ≤ 10 <;> by_cases hv : (x.f1.size : Int) > 40 <;> by_cases hg : x.f2 = true <;> by_cases he : x.f1.toList = [] <;> by_cases hb : Op.bytesLess y.f0.toList x.f0.toList = true <;> simp [h1, hv, hg, he, hb, h2]
theorem impl_BatchOk.ev (a : Int) (l : List S109) (hs : l.length ≤ 1048576) : Ev (fun k => impl_BatchOk.f k a l) (batchOf a l) := by
  have stop : Ev (fun k => impl_BatchOk.l0 k l (l.length : Int) ((l.length : Nat) : Int) a l) (decide (0 ≤ a ∧ a ≤ 100000) && decide (¬ (l.length : Int) > 60)) := ev_now fun k => by
    show impl_BatchOk.l0 (k + 1) _ _ _ _ _ = _
    rw [impl_BatchOk.l0, if_neg (by omega), impl_within.is, Option.bind_some]
    by_cases h1 : 0 ≤ a ∧ a ≤ 100000
    · rw [decide_eq_true h1, if_pos rfl, Bool.true_and]
      congr 1
      rw [decide_eq_decide]
      omega
    · rw [decide_eq_false h1, if_neg (by simp), Bool.false_and]
  obtain ⟨K, h⟩ := loop_all (F := fun k i => impl_BatchOk.l0 k l (l.length : Int) (i : Int) a l) (fun k i hi => impl_BatchOk.step a l hs k i hi) stop l.length 0 (by omega)
  dsimp only at h
  unfold batchOf
  rw [Bool.and_comm]
  exact ⟨K, fun k hk => h k hk⟩
theorem impl_MapDo.ev0 (cs : List S109) (hs : cs.length ≤ 1048576) (d : Nat) : ∀ (i : Nat) (m : List S59), i + d = cs.length → srtMap m → m.length ≤ 1048575 + i →  m.length + d ≤ 1048575 →
    Ev (fun k => impl_MapDo.l0 k m cs (cs.length : Int) (i : Int)) (mapEnd (doAll m (cs.drop i))) := by
  induction d with
  | zero =>
    intro i m hi hsr hm hmd
    obtain ⟨K, h⟩ := impl_MapOk.ev m (by omega)
    dsimp only at h
    refine ⟨K + 1, fun k hk => ?_⟩
    obtain ⟨k, rfl⟩ : ∃ m, k = m + 1 := ⟨k - 1, by omega⟩
    show impl_MapDo.l0 (k + 1) _ _ _ _ = _
    rw [impl_MapDo.l0, if_neg (by omega), h k (by omega), Option.bind_some, List.drop_eq_nil_of_le (by omega)]
    unfold mapEnd doAll
    rw [List.foldl_nil]
    by_cases hc : mapCOf m = true
    · rw [if_pos hc, if_pos hc]
    · rw [if_neg hc, if_neg hc]
  | succ d ih =>
    intro i m hi hsr hm hmd
    have hlt : i < cs.length := by omega
    have ew : Hd (wrap64 ((i : Int) + 1) = ((i + 1 : Nat) : Int)) := Hd.mk <| by rw [w64 (by omega) (by omega)]; rfl
    have hl := doOne_len m cs[i]
    have hih := ih (i + 1) (doOne m cs[i]) (by omega) (doOne_srt hsr _) (by omega) (by omega)
    have e0 : doAll m (cs.drop i) = doAll (doOne m cs[i]) (cs.drop (i + 1)) := by
      rw [List.drop_eq_getElem_cons hlt]
      rfl
    rw [e0]
    refine Ev.step (fun k => ?_) hih
    show impl_MapDo.l0 (k + 1) _ _ _ _ = impl_MapDo.l0 k _ _ _ _
    rw [impl_MapDo.l0, if_pos (by omega), if_pos (by omega), if_pos (by omega), rdI_Change cs i hlt, ew.out]
    by_cases hg : cs[i].f2 = true
    · rw [if_pos hg, impl_withoutKey.is m hsr (by omega), Option.bind_some]
      unfold doOne
      rw [if_pos hg]
    · rw [if_neg hg, impl_withKey.is m hsr (by omega), Option.bind_some]
      unfold doOne
      rw [if_neg hg]
theorem impl_MapDo.ev (m : List S59) (hm : m.length ≤ 1048576) (v : Int) (cs : List S109) (hs : cs.length ≤ 1048576) : Ev (fun k => impl_MapDo.f k m v cs) (mapDoOf m v cs) := by
  obtain ⟨K0, h0⟩ := impl_MapOk.ev m hm
  obtain ⟨K1, h1⟩ := impl_BatchOk.ev v cs hs
  dsimp only at h0 h1
  unfold mapDoOf
  by_cases hc : mapCOf m = true
  · obtain ⟨hsr, hml, _⟩ := mapC_srt hc
    by_cases hb : batchOf v cs = true
    · have hcl := batchOf_len hb
      obtain ⟨K2, h2⟩ := impl_MapDo.ev0 cs hs cs.length 0 m (by omega) hsr (by omega) (by omega)
      dsimp only at h2
      refine ⟨K0 + K1 + K2 + 1, fun k hk => ?_⟩
      have h0' := h0 k (by omega)
      have h1' := h1 k (by omega)
      obtain ⟨k, rfl⟩ : ∃ m, k = m + 1 := ⟨k - 1, by omega⟩
      show impl_MapDo.f (k + 1) _ _ _ = _
      unfold impl_MapDo.f
      rw [h0', Option.bind_some, if_pos hc, h1', Option.bind_some, hb, impl_MapDo.j0, if_neg (by simp), if_pos (by simp; omega), List.nil_append, if_pos ⟨hc, rfl⟩]
      exact h2 k (by omega)
    · refine ⟨K0 + K1 + 1, fun k hk => ?_⟩
      have h0' := h0 k (by omega)
      have h1' := h1 k (by omega)
      obtain ⟨k, rfl⟩ : ∃ m, k = m + 1 := ⟨k - 1, by omega⟩
      show impl_MapDo.f (k + 1) _ _ _ = _
      unfold impl_MapDo.f
      rw [h0', Option.bind_some, if_pos hc, h1', Option.bind_some, impl_MapDo.j0, if_pos (by simp [hb]), if_neg (fun h => hb h.2)]
  · refine ⟨K0 + 1, fun k hk => ?_⟩
    have h0' := h0 k (by omega)
    obtain ⟨k, rfl⟩ : ∃ m, k = m + 1 := ⟨k - 1, by omega⟩
    show impl_MapDo.f (k + 1) _ _ _ = _
    unfold impl_MapDo.f
    rw [h0', Option.bind_some, if_neg hc, impl_MapDo.j0, if_pos rfl, if_neg (fun h => hc h.1)]
theorem rdI_Pair (l : List S59) (n : Nat) (h : n < l.length) : rd_T59 l (n : Int) = l[n] := by
  show l.getD n z59 = _
  simp [List.getD_eq_getElem?_getD, List.getElem?_eq_getElem h]
theorem spec_l06Put.ev1 (l : List S59) (a b : ByteArray) (hs : l.length ≤ 1048576) (d : Nat) : ∀ (i : Nat) (acc : List S59), i + d = l.length → acc.length ≤ 1048577 + i →
    Ev (fun k => spec_l06Put.l1 k l a acc (i : Int)) (acc ++ (l.drop i).filter (fun y => decide (bl a < bl y.f0))) := by
  induction d with
  | zero =>
    intro i acc hi ha
    refine ev_now fun k => ?_
    show spec_l06Put.l1 (k + 1) _ _ _ _ = _
    rw [spec_l06Put.l1, if_neg (by omega), List.drop_eq_nil_of_le (by omega), List.filter_nil, List.append_nil]
  | succ d ih =>
    intro i acc hi ha
    have hlt : i < l.length := by omega
    have ew : Hd (wrap64 ((i : Int) + 1) = ((i + 1 : Nat) : Int)) := Hd.mk <| by rw [w64 (by omega) (by omega)]; rfl
    rw [List.drop_eq_getElem_cons hlt, List.filter_cons]
    by_cases hc : bl a < bl l[i].f0
    · rw [if_pos (decide_eq_true hc)]
      have := ih (i + 1) (acc ++ [l[i]]) (by omega) (by simp; omega)
      rw [List.append_assoc, List.singleton_append] at this
      refine Ev.step (fun k => ?_) this
      show spec_l06Put.l1 (k + 1) _ _ _ _ = spec_l06Put.l1 k _ _ _ _
      rw [spec_l06Put.l1, if_pos (by omega), if_pos (by omega), rdI_Pair l i hlt, if_pos (by rw [bless, bl_toList, bl_toList]; exact decide_eq_true hc), if_pos (by omega), ew.out]
    · rw [if_neg (by simpa using hc)]
      refine Ev.step (fun k => ?_) (ih (i + 1) acc (by omega) (by omega))
      show spec_l06Put.l1 (k + 1) _ _ _ _ = spec_l06Put.l1 k _ _ _ _
      rw [spec_l06Put.l1, if_pos (by omega), if_pos (by omega), rdI_Pair l i hlt, if_neg (by rw [bless, bl_toList, bl_toList]; simpa using hc), ew.out]
theorem spec_l06Put.ev0 (l : List S59) (a b : ByteArray) (hs : l.length ≤ 1048576) (d : Nat) : ∀ (i : Nat) (acc : List S59), i + d = l.length → acc.length ≤ i →
    Ev (fun k => spec_l06Put.l0 k l a b acc (i : Int)) (acc ++ (l.drop i).filter (fun y => decide (bl y.f0 < bl a)) ++ [⟨a, b⟩] ++ l.filter (fun y => decide (bl a < bl y.f0))) := by
  induction d with
  | zero =>
    intro i acc hi ha
    have h1 := spec_l06Put.ev1 l a b hs l.length 0 (acc ++ [⟨a, b⟩]) (by omega) (by simp; omega)
    rw [List.drop_eq_nil_of_le (by omega), List.filter_nil, List.append_nil]
    refine Ev.step (fun k => ?_) h1
    show spec_l06Put.l0 (k + 1) _ _ _ _ _ = spec_l06Put.l1 k _ _ _ _
    rw [spec_l06Put.l0, if_neg (by omega), if_pos (by omega)]
    rfl
  | succ d ih =>
    intro i acc hi ha
    have hlt : i < l.length := by omega
    have ew : Hd (wrap64 ((i : Int) + 1) = ((i + 1 : Nat) : Int)) := Hd.mk <| by rw [w64 (by omega) (by omega)]; rfl
    rw [List.drop_eq_getElem_cons hlt, List.filter_cons]
    by_cases hc : bl l[i].f0 < bl a
    · rw [if_pos (decide_eq_true hc)]
      have := ih (i + 1) (acc ++ [l[i]]) (by omega) (by simp; omega)
      rw [List.append_assoc acc, List.singleton_append] at this
      refine Ev.step (fun k => ?_) this
      show spec_l06Put.l0 (k + 1) _ _ _ _ _ = spec_l06Put.l0 k _ _ _ _ _
      rw [spec_l06Put.l0, if_pos (by omega), if_pos (by omega), rdI_Pair l i hlt, if_pos (by rw [bless, bl_toList, bl_toList]; exact decide_eq_true hc), if_pos (by omega), ew.out]
    · rw [if_neg (by simpa using hc)]
      refine Ev.step (fun k => ?_) (ih (i + 1) acc (by omega) (by omega))
      show spec_l06Put.l0 (k + 1) _ _ _ _ _ = spec_l06Put.l0 k _ _ _ _ _
      rw [spec_l06Put.l0, if_pos (by omega), if_pos (by omega), rdI_Pair l i hlt, if_neg (by rw [bless, bl_toList, bl_toList]; simpa using hc), ew.out]
theorem spec_l06Put.ev (l : List S59) (a b : ByteArray) (hs : l.length ≤ 1048576) : Ev (fun k => spec_l06Put.f k l a b) (putMap l ⟨a, b⟩) := by
  obtain ⟨K, h⟩ := spec_l06Put.ev0 l a b hs l.length 0 [] (by omega) (by simp)
  exact ⟨K, fun k hk => h k hk⟩
theorem tl_eq {a b : ByteArray} : a.toList = b.toList ↔ a = b := ⟨fun h => by rw [bl_toList, bl_toList] at h; exact bl_inj h, fun h => by rw [h]⟩
theorem spec_l06Cut.ev0 (l : List S59) (a : ByteArray) (hs : l.length ≤ 1048576) (d : Nat) : ∀ (i : Nat) (acc : List S59), i + d = l.length → acc.length ≤ i →
    Ev (fun k => spec_l06Cut.l0 k l a acc (i : Int)) (acc ++ (l.drop i).filter (fun y => decide (y.f0 ≠ a))) := by
  induction d with
  | zero =>
    intro i acc hi ha
    refine ev_now fun k => ?_
    show spec_l06Cut.l0 (k + 1) _ _ _ _ = _
    rw [spec_l06Cut.l0, if_neg (by omega), List.drop_eq_nil_of_le (by omega), List.filter_nil, List.append_nil]
  | succ d ih =>
    intro i acc hi ha
    have hlt : i < l.length := by omega
    have ew : Hd (wrap64 ((i : Int) + 1) = ((i + 1 : Nat) : Int)) := Hd.mk <| by rw [w64 (by omega) (by omega)]; rfl
    rw [List.drop_eq_getElem_cons hlt, List.filter_cons]
    by_cases hc : l[i].f0 = a
    · rw [if_neg (by simpa using hc)]
      refine Ev.step (fun k => ?_) (ih (i + 1) acc (by omega) (by omega))
      show spec_l06Cut.l0 (k + 1) _ _ _ _ = spec_l06Cut.l0 k _ _ _ _
      rw [spec_l06Cut.l0, if_pos (by omega), if_pos (by omega), rdI_Pair l i hlt, if_pos (tl_eq.2 hc), ew.out]
    · rw [if_pos (by simpa using hc)]
      have := ih (i + 1) (acc ++ [l[i]]) (by omega) (by simp; omega)
      rw [List.append_assoc, List.singleton_append] at this
      refine Ev.step (fun k => ?_) this
      show spec_l06Cut.l0 (k + 1) _ _ _ _ = spec_l06Cut.l0 k _ _ _ _
      rw [spec_l06Cut.l0, if_pos (by omega), if_pos (by omega), rdI_Pair l i hlt, if_neg (fun h => hc (tl_eq.1 h)), if_pos (by omega), ew.out]
theorem spec_l06Cut.ev (l : List S59) (a : ByteArray) (hs : l.length ≤ 1048576) : Ev (fun k => spec_l06Cut.f k l a) (cutMap l a) := by
  obtain ⟨K, h⟩ := spec_l06Cut.ev0 l a hs l.length 0 [] (by omega) (by simp)
  exact ⟨K, fun k hk => h k hk⟩
theorem spec_l01In.is (a lo hi : Int) : spec_l01In.f a lo hi = some (decide (lo ≤ a ∧ a ≤ hi)) := by
  unfold spec_l01In.f
  by_cases h : a ≥ lo
  · rw [if_pos h]
    congr 1
    simp only [decide_eq_decide]
    exact ⟨fun h' => ⟨h, h'⟩, fun h' => h'.2⟩
  · rw [if_neg h, decide_eq_false (fun h' => h h'.1)]
theorem spec_l05Key.is (s : ByteArray) : spec_l05Key.f s = some (decide (1 ≤ (s.size : Int) ∧ (s.size : Int) ≤ 10)) := by
  unfold spec_l05Key.f
  rw [spec_l01In.is, Option.bind_some]
theorem spec_MapOk.ev0 (l : List S59) (hs : l.length ≤ 1048576) (d : Nat) : ∀ (i : Nat), i + d = l.length →
    Ev (fun k => spec_MapOk.l0 k l (i : Int)) (allF (mapC l) d i) := by
  induction d with
  | zero =>
    intro i hi
    refine ev_now fun k => ?_
    show spec_MapOk.l0 (k + 1) _ _ = _
    rw [spec_MapOk.l0, if_neg (by omega)]
    rfl
  | succ d ih =>
    intro i hi
    have e0 : rd_T59 l (i : Int) = l.getD i z59 := rfl
    by_cases h1 : 1 ≤ ((l.getD i z59).f0.size : Int) ∧ ((l.getD i z59).f0.size : Int) ≤ 10
    · by_cases hv : ((l.getD i z59).f1.size : Int) ≤ 40
      · by_cases h2 : i = 0
        · have hC : mapC l i = true := by simp only [mapC, decide_eq_true h1, decide_eq_true hv, decide_eq_true h2, Bool.true_or, Bool.and_true]
          simp only [allF, hC, Bool.true_and]
          refine Ev.step (fun k => ?_) (ih (i + 1) (by omega))
          show spec_MapOk.l0 (k + 1) _ _ = spec_MapOk.l0 k _ _
          rw [spec_MapOk.l0, if_pos (by omega), if_pos (by omega), e0, spec_l05Key.is, decide_eq_true h1]
          simp only [Option.bind_some, if_true]
          rw [if_neg (by omega), if_neg (by omega), w64 (by omega) (by omega)]
          rfl
        · have e2 : Hd (wrap64 ((i : Int) - 1) = ((i - 1 : Nat) : Int)) := Hd.mk <| by rw [w64 (by omega) (by omega)]; omega
          have e1 : rd_T59 l ((i - 1 : Nat) : Int) = l.getD (i - 1) z59 := rfl
          by_cases h3 : Op.bytesLess (l.getD (i - 1) z59).f0.toList (l.getD i z59).f0.toList = true
          · have hC : mapC l i = true := by simp only [mapC, decide_eq_true h1, decide_eq_true hv, h3, Bool.or_true, Bool.and_true]
            simp only [allF, hC, Bool.true_and]
            refine Ev.step (fun k => ?_) (ih (i + 1) (by omega))
            show spec_MapOk.l0 (k + 1) _ _ = spec_MapOk.l0 k _ _
            rw [spec_MapOk.l0, if_pos (by omega), if_pos (by omega), e0, spec_l05Key.is, decide_eq_true h1]
            simp only [Option.bind_some, if_true]
            rw [if_neg (by omega), if_pos (by omega), e2.out, if_pos (by omega), if_pos (by omega), e1, if_pos h3, w64 (x := (i : Int) + 1) (by omega) (by omega)]
            rfl
          · have hC : mapC l i = false := by simp only [mapC, decide_eq_true h1, decide_eq_true hv, Bool.eq_false_iff.2 h3, decide_eq_false h2, Bool.or_false, Bool.and_false]
            simp only [allF, hC, Bool.false_and]
            refine ev_now fun k => ?_
            show spec_MapOk.l0 (k + 1) _ _ = _
            rw [spec_MapOk.l0, if_pos (by omega), if_pos (by omega), e0, spec_l05Key.is, decide_eq_true h1]
            simp only [Option.bind_some, if_true]
            rw [if_neg (by omega), if_pos (by omega), e2.out, if_pos (by omega), if_pos (by omega), e1, if_neg h3]
      · have hC : mapC l i = false := by simp only [mapC, decide_eq_false hv, Bool.false_and, Bool.and_false]
        simp only [allF, hC, Bool.false_and]
        refine ev_now fun k => ?_
        show spec_MapOk.l0 (k + 1) _ _ = _
        rw [spec_MapOk.l0, if_pos (by omega), if_pos (by omega), e0, spec_l05Key.is, decide_eq_true h1]
        simp only [Option.bind_some, if_true]
        rw [if_pos (by omega)]
    · have hC : mapC l i = false := by simp only [mapC, decide_eq_false h1, Bool.false_and]
      simp only [allF, hC, Bool.false_and]
      refine ev_now fun k => ?_
      show spec_MapOk.l0 (k + 1) _ _ = _
      rw [spec_MapOk.l0, if_pos (by omega), if_pos (by omega), e0, spec_l05Key.is, decide_eq_false h1]
      simp
theorem spec_MapOk.ev (l : List S59) (hs : l.length ≤ 1048576) : Ev (fun k => spec_MapOk.f k l) (mapCOf l) := by
  unfold mapCOf
  by_cases hc : (l.length : Int) ≤ 60
  · obtain ⟨K, h⟩ := spec_MapOk.ev0 l hs l.length 0 (by omega)
    refine ⟨K, fun k hk => ?_⟩
    show spec_MapOk.f k _ = _
    unfold spec_MapOk.f
    rw [if_neg (by omega), decide_eq_true hc, Bool.true_and]
    exact h k hk
  · refine ⟨0, fun k hk => ?_⟩
    show spec_MapOk.f k _ = _
    unfold spec_MapOk.f
    rw [if_pos (by omega), decide_eq_false hc, Bool.false_and]
theorem spec_BatchOk.step (a : Int) (l : List S109) (hs : l.length ≤ 1048576) (k i : Nat) (hlt : i < l.length) :
    spec_BatchOk.l0 (k + 1) (i : Int) a l = if chC l i = true then spec_BatchOk.l0 k ((i + 1 : Nat) : Int) a l else some false := by
  have e0 : rd_T109 l (i : Int) = l.getD i z109 := rfl
  have e3 : Hd (wrap64 ((i : Int) + 1) = ((i + 1 : Nat) : Int)) := Hd.mk <| by rw [w64 (by omega) (by omega)]; rfl
  have e2 : Hd (0 < i → wrap64 ((i : Int) - 1) = ((i - 1 : Nat) : Int)) := Hd.mk fun h => by rw [w64 (by omega) (by omega)]; omega
  rw [spec_BatchOk.l0, if_pos (by omega), if_pos (by omega), e0, spec_l05Key.is, Option.bind_some, e3.out]
  by_cases h2 : i = 0
  · rw [if_neg (show ¬ ((i : Int) > 0) by omega)]
    unfold chC
    generalize l.getD i z109 = x
    generalize spec_BatchOk.l0 k ((i + 1 : Nat) : Int) a l = R
    by_cases h1 : 1 ≤ (x.f0.size : Int) ∧ (x.f0.size : Int) ≤ 10 <;> by_cases hv : (x.f1.size : Int) > 40 <;> by_cases hg : x.f2 = true <;> by_cases he : x.f1.toList = [] <;> simp [h1, hv, hg, he, h2]
  · have e1 : rd_T109 l ((i - 1 : Nat) : Int) = l.getD (i - 1) z109 := rfl
    simp only [if_pos (show ((i : Int) > 0) by omega), e2.out (by omega), if_pos (show (0 : Int) ≤ ((i - 1 : Nat) : Int) by omega), if_pos (show ((i - 1 : Nat) : Int) < (l.length : Int) by omega), e1]
    unfold chC
    generalize l.getD i z109 = x
    generalize l.getD (i - 1) z109 = y
    generalize spec_BatchOk.l0 k ((i + 1 : Nat) : Int) a l = R
    by_cases h1 : 1 ≤ (x.f0.size : Int) ∧ (x.f0.size : Int) ≤ 10 <;> by_cases hv : (x.f1.size : Int) > 40 <;> by_cases hg : x.f2 = true <;> by_cases he : x.f1.toList = [] <;> by_cases hb : Op.bytesLess y.f0.toList x.f0.toList = true <;> simp [h1, hv, hg, he, hb, h2]
theorem spec_BatchOk.ev (a : Int) (l : List S109) (hs : l.length ≤ 1048576) : Ev (fun k => spec_BatchOk.f k a l) (batchOf a l) := by
  have stop : Ev (fun k => spec_BatchOk.l0 k ((l.length : Nat) : Int) a l) true := ev_now fun k => by
    show spec_BatchOk.l0 (k + 1) _ _ _ = _
    rw [spec_BatchOk.l0, if_neg (by omega)]
  obtain ⟨K, h⟩ := loop_all (F := fun k i => spec_BatchOk.l0 k (i : Int) a l) (fun k i hi => spec_BatchOk.step a l hs k i hi) stop l.length 0 (by omega)
  dsimp only at h
  unfold batchOf
  by_cases h1 : 0 ≤ a ∧ a ≤ 100000
  · by_cases h2 : (l.length : Int) > 60
    · refine ⟨1, fun k hk => ?_⟩
      obtain ⟨k, rfl⟩ : ∃ m, k = m + 1 := ⟨k - 1, by omega⟩
      show spec_BatchOk.f (k + 1) _ _ = _
      unfold spec_BatchOk.f
      rw [spec_l01In.is, Option.bind_some, decide_eq_true h1, if_pos rfl, decide_eq_true h2, spec_BatchOk.j0, if_pos rfl]
      simp [h2]
    · refine ⟨K + 1, fun k hk => ?_⟩
      obtain ⟨k, rfl⟩ : ∃ m, k = m + 1 := ⟨k - 1, by omega⟩
      show spec_BatchOk.f (k + 1) _ _ = _
      unfold spec_BatchOk.f
      rw [spec_l01In.is, Option.bind_some, decide_eq_true h1, if_pos rfl, decide_eq_false h2, spec_BatchOk.j0, if_neg (by simp), decide_eq_true h2, Bool.true_and, Bool.true_and]
      have := h k (by omega)
      rw [Bool.and_true] at this
      exact this
  · refine ⟨1, fun k hk => ?_⟩
    obtain ⟨k, rfl⟩ : ∃ m, k = m + 1 := ⟨k - 1, by omega⟩
    show spec_BatchOk.f (k + 1) _ _ = _
    unfold spec_BatchOk.f
    rw [spec_l01In.is, Option.bind_some, decide_eq_false h1, if_neg (by simp), spec_BatchOk.j0, if_pos rfl, Bool.false_and, Bool.false_and]
theorem spec_MapDo.ev0 (v : Int) (cs : List S109) (hs : cs.length ≤ 1048576) (d : Nat) : ∀ (i : Nat) (m : List S59), i + d = cs.length → m.length + d ≤ 1048575 →
    Ev (fun k => spec_MapDo.l0 k m (i : Int) v cs) (mapEnd (doAll m (cs.drop i))) := by
  induction d with
  | zero =>
    intro i m hi hmd
    obtain ⟨K, h⟩ := spec_MapOk.ev m (by omega)
    dsimp only at h
    refine ⟨K + 1, fun k hk => ?_⟩
    obtain ⟨k, rfl⟩ : ∃ m, k = m + 1 := ⟨k - 1, by omega⟩
    show spec_MapDo.l0 (k + 1) _ _ _ _ = _
    rw [spec_MapDo.l0, if_neg (by omega), h k (by omega), Option.bind_some, List.drop_eq_nil_of_le (by omega)]
    unfold mapEnd doAll
    rw [List.foldl_nil]
    by_cases hc : mapCOf m = true
    · rw [if_pos hc, if_pos hc]
    · rw [if_neg hc, if_neg hc]
  | succ d ih =>
    intro i m hi hmd
    have hlt : i < cs.length := by omega
    have ew : Hd (wrap64 ((i : Int) + 1) = ((i + 1 : Nat) : Int)) := Hd.mk <| by rw [w64 (by omega) (by omega)]; rfl
    have hl := doOne_len m cs[i]
    obtain ⟨K, h⟩ := ih (i + 1) (doOne m cs[i]) (by omega) (by omega)
    obtain ⟨K1, h1⟩ := spec_l06Cut.ev m cs[i].f0 (by omega)
    obtain ⟨K2, h2⟩ := spec_l06Put.ev m cs[i].f0 cs[i].f1 (by omega)
    dsimp only at h h1 h2
    refine ⟨K + K1 + K2 + 1, fun k hk => ?_⟩
    obtain ⟨k, rfl⟩ : ∃ m, k = m + 1 := ⟨k - 1, by omega⟩
    have h' := h k (by omega)
    show spec_MapDo.l0 (k + 1) _ _ _ _ = _
    rw [spec_MapDo.l0, if_pos (by omega), if_pos (by omega), rdI_Change cs i hlt, ew.out, List.drop_eq_getElem_cons hlt]
    unfold doOne at h'
    show _ = some (mapEnd (doAll (doOne m cs[i]) (cs.drop (i + 1))))
    unfold doOne
    by_cases hg : cs[i].f2 = true
    · rw [if_pos hg] at h'
      rw [if_pos hg, h1 k (by omega), Option.bind_some, if_pos hg]
      exact h'
    · rw [if_neg hg] at h'
      rw [if_neg hg, h2 k (by omega), Option.bind_some, if_neg hg]
      exact h'
theorem spec_MapDo.ev (m : List S59) (hm : m.length ≤ 1048576) (v : Int) (cs : List S109) (hs : cs.length ≤ 1048576) : Ev (fun k => spec_MapDo.f k m v cs) (mapDoOf m v cs) := by
  obtain ⟨K0, h0⟩ := spec_MapOk.ev m hm
  obtain ⟨K1, h1⟩ := spec_BatchOk.ev v cs hs
  dsimp only at h0 h1
  unfold mapDoOf
  by_cases hc : mapCOf m = true
  · obtain ⟨hsr, hml, _⟩ := mapC_srt hc
    by_cases hb : batchOf v cs = true
    · have hcl := batchOf_len hb
      obtain ⟨K2, h2⟩ := spec_MapDo.ev0 v cs hs cs.length 0 m (by omega) (by omega)
      dsimp only at h2
      refine ⟨K0 + K1 + K2 + 1, fun k hk => ?_⟩
      have h0' := h0 k (by omega)
      have h1' := h1 k (by omega)
      obtain ⟨k, rfl⟩ : ∃ m, k = m + 1 := ⟨k - 1, by omega⟩
      show spec_MapDo.f (k + 1) _ _ _ = _
      unfold spec_MapDo.f
      rw [h0', Option.bind_some, if_pos hc, h1', Option.bind_some, hb, spec_MapDo.j0, if_neg (by simp), Option.bind_some, if_pos (by simp; omega), List.nil_append, if_pos ⟨hc, rfl⟩]
      exact h2 k (by omega)
    · refine ⟨K0 + K1 + 1, fun k hk => ?_⟩
      have h0' := h0 k (by omega)
      have h1' := h1 k (by omega)
      obtain ⟨k, rfl⟩ : ∃ m, k = m + 1 := ⟨k - 1, by omega⟩
      show spec_MapDo.f (k + 1) _ _ _ = _
      unfold spec_MapDo.f
      rw [h0', Option.bind_some, if_pos hc, h1', Option.bind_some, spec_MapDo.j0, if_pos (by simp [hb]), if_neg (fun h => hb h.2)]
  · refine ⟨K0 + 1, fun k hk => ?_⟩
    have h0' := h0 k (by omega)
    obtain ⟨k, rfl⟩ : ∃ m, k = m + 1 := ⟨k - 1, by omega⟩
    show spec_MapDo.f (k + 1) _ _ _ = _
    unfold spec_MapDo.f
    rw [h0', Option.bind_some, if_neg hc, spec_MapDo.j0, if_pos rfl, if_neg (fun h => hc h.1)]
theorem laws_szChange.is (a0 : ByteArray) (a1 : ByteArray) (a2 : Bool) (n : Int) (h0 : 0 ≤ n) (h1 : n ≤ 1048576) (b0 : a0.size ≤ 9223372036854775807) (b1 : a1.size ≤ 9223372036854775807) : ∃ r, laws_szChange.f a0 a1 a2 n = some r ∧ (0 ≤ r → a0.size ≤ 1048576 ∧ a1.size ≤ 1048576 ∧ r ≤ n) := by
  unfold laws_szChange.f
  rw [w64 (x := n - (a0.size : Int)) (by omega) (by omega)]
  by_cases c0 : n - (a0.size : Int) < 0
  · rw [if_pos c0]; exact ⟨_, rfl, fun h => by omega⟩
  rw [if_neg c0]
  rw [w64 (x := n - (a0.size : Int) - (a1.size : Int)) (by omega) (by omega)]
  by_cases c1 : n - (a0.size : Int) - (a1.size : Int) < 0
  · rw [if_pos c1]; exact ⟨_, rfl, fun h => by omega⟩
  rw [if_neg c1]
  exact ⟨_, rfl, fun h => by omega⟩
theorem rdL_Change (l : List S158) (n : Nat) (h : n < l.length) : rd_T158 l (n : Int) = l[n] := by
  show l.getD n z158 = _
  simp [List.getD_eq_getElem?_getD, List.getElem?_eq_getElem h]
theorem laws_szChangeS.ev0 (l : List S158) (hl : l.length ≤ 1048576) (hw : ∀ x ∈ l, x.f0.size ≤ 9223372036854775807 ∧ x.f1.size ≤ 9223372036854775807) (d : Nat) : ∀ (i : Nat) (n : Int), i + d = l.length → 0 ≤ n → n ≤ 1048576 →
    ∃ r, Ev (fun k => laws_szChangeS.l0 k l n (i : Int)) r ∧ (0 ≤ r → (∀ x ∈ l.drop i, x.f0.size ≤ 1048576 ∧ x.f1.size ≤ 1048576) ∧ r ≤ n) := by
  induction d with
  | zero =>
    intro i n hi h0 h1
    refine ⟨n, ⟨1, fun k hk => ?_⟩, fun _ => ⟨fun x hx => (by rw [List.drop_eq_nil_of_le (by omega)] at hx; cases hx), by omega⟩⟩
    obtain ⟨k, rfl⟩ : ∃ m, k = m + 1 := ⟨k - 1, by omega⟩
    show laws_szChangeS.l0 (k + 1) _ _ _ = _
    rw [laws_szChangeS.l0, if_neg (by omega)]
  | succ d ih =>
    intro i n hi h0 h1
    have hlt : i < l.length := by omega
    have hm := hw l[i] (List.getElem_mem hlt)
    obtain ⟨r, hr, hf⟩ := laws_szChange.is l[i].f0 l[i].f1 l[i].f2 n h0 h1 (by omega) (by omega)
    by_cases hneg : r < 0
    · refine ⟨-1, ⟨1, fun k hk => ?_⟩, fun h => by omega⟩
      obtain ⟨k, rfl⟩ : ∃ m, k = m + 1 := ⟨k - 1, by omega⟩
      show laws_szChangeS.l0 (k + 1) _ _ _ = _
      rw [laws_szChangeS.l0, if_pos (by omega), if_pos (by omega), rdL_Change l i hlt, hr, Option.bind_some, if_pos hneg]
    · have hf' := hf (by omega)
      obtain ⟨r', h', hf2⟩ := ih (i + 1) r (by omega) (by omega) (by omega)
      refine ⟨r', Ev.step (fun k => ?_) h', fun hr' => ⟨fun x hx => ?_, by have := (hf2 hr').2; omega⟩⟩
      · show laws_szChangeS.l0 (k + 1) _ _ _ = laws_szChangeS.l0 k _ _ _
        rw [laws_szChangeS.l0, if_pos (by omega), if_pos (by omega), rdL_Change l i hlt, hr, Option.bind_some, if_neg hneg, w64 (by omega) (by omega)]
        rfl
      · rw [List.drop_eq_getElem_cons hlt] at hx
        rcases List.mem_cons.1 hx with rfl | hx
        · omega
        · exact (hf2 hr').1 x hx
theorem laws_szChangeS.ev (l : List S158) (hl : l.length ≤ 9223372036854775807) (hw : ∀ x ∈ l, x.f0.size ≤ 9223372036854775807 ∧ x.f1.size ≤ 9223372036854775807) (n : Int) (h0 : 0 ≤ n) (h1 : n ≤ 1048576) :
    ∃ r, Ev (fun k => laws_szChangeS.f k l n) r ∧ (0 ≤ r → l.length ≤ 1048576 ∧ (∀ x ∈ l, x.f0.size ≤ 1048576 ∧ x.f1.size ≤ 1048576) ∧ r ≤ n) := by
  have e : Hd (wrap64 (n - (l.length : Int)) = n - (l.length : Int)) := Hd.mk <| w64 (by omega) (by omega)
  by_cases h : n - (l.length : Int) < 0
  · refine ⟨-1, ⟨0, fun k hk => ?_⟩, fun h => by omega⟩
    show laws_szChangeS.f k _ _ = _
    unfold laws_szChangeS.f
    rw [e.out, if_pos h]
  · obtain ⟨r, ⟨K, hK⟩, hf⟩ := laws_szChangeS.ev0 l (by omega) hw l.length 0 (n - (l.length : Int)) (by omega) (by omega) (by omega)
    refine ⟨r, ⟨K, fun k hk => ?_⟩, fun h => ⟨by omega, (hf h).1, by have := (hf h).2; omega⟩⟩
    show laws_szChangeS.f k _ _ = _
    unfold laws_szChangeS.f
    rw [e.out, if_neg h]
    exact hK k hk
def cvChange (x : S158) : S109 := ⟨x.f0, x.f1, x.f2⟩
theorem laws_toChangeS.ev0 (l : List S158) (hs : l.length ≤ 1048576) (d : Nat) : ∀ (i : Nat) (x : List S109), i + d = l.length → x.length = l.length → x.take i = (l.map cvChange).take i →
    Ev (fun k => laws_toChangeS.l0 k l x (i : Int)) (l.map cvChange) := by
  have hml : (l.map cvChange).length = l.length := by simp
  induction d with
  | zero =>
    intro i x hi hx he
    refine ⟨1, fun k hk => ?_⟩
    obtain ⟨k, rfl⟩ : ∃ m, k = m + 1 := ⟨k - 1, by omega⟩
    show laws_toChangeS.l0 (k + 1) _ _ _ = _
    rw [laws_toChangeS.l0, if_neg (by omega)]
    rw [List.take_of_length_le (by omega), List.take_of_length_le (by omega)] at he
    rw [he]
  | succ d ih =>
    intro i x hi hx he
    have hlt : i < l.length := by omega
    refine Ev.step (fun k => ?_) (ih (i + 1) (x.set i (cvChange l[i])) (by omega) (by simp; omega) ?_)
    · show laws_toChangeS.l0 (k + 1) _ _ _ = laws_toChangeS.l0 k _ _ _
      rw [laws_toChangeS.l0, if_pos (by omega), if_pos (by omega), rdL_Change l i hlt]
      unfold laws_toChange.f
      rw [Option.bind_some, if_pos (by omega), w64 (by omega) (by omega)]
      rfl
    · rw [List.take_succ_eq_append_getElem (by simp; omega), List.take_succ_eq_append_getElem (by simp; omega), List.take_set_of_le (by omega), he]
      simp
theorem laws_toChangeS.ev (l : List S158) (hs : l.length ≤ 1048576) : Ev (fun k => laws_toChangeS.f k l) (l.map cvChange) := by
  obtain ⟨K, h⟩ := laws_toChangeS.ev0 l hs l.length 0 (List.replicate l.length z109) (by omega) (by simp) (by simp)
  dsimp only at h
  refine ⟨K, fun k hk => ?_⟩
  show laws_toChangeS.f k _ = _
  unfold laws_toChangeS.f
  rw [if_pos (by omega), if_pos (by omega)]
  exact h k hk
theorem laws_eqChange.refl (a0 : ByteArray) (a1 : ByteArray) (a2 : Bool) : laws_eqChange.f a0 a1 a2 a0 a1 a2 = some true := by
  unfold laws_eqChange.f
  simp
theorem laws_eqChangeS.ev0 (l : List S109) (hs : l.length ≤ 1048576) (d : Nat) : ∀ (i : Nat), i + d = l.length → Ev (fun k => laws_eqChangeS.l0 k l l (i : Int)) true := by
  induction d with
  | zero =>
    intro i hi
    refine ⟨1, fun k hk => ?_⟩
    obtain ⟨k, rfl⟩ : ∃ m, k = m + 1 := ⟨k - 1, by omega⟩
    show laws_eqChangeS.l0 (k + 1) _ _ _ = _
    rw [laws_eqChangeS.l0, if_neg (by omega)]
  | succ d ih =>
    intro i hi
    refine Ev.step (fun k => ?_) (ih (i + 1) (by omega))
    show laws_eqChangeS.l0 (k + 1) _ _ _ = laws_eqChangeS.l0 k _ _ _
    rw [laws_eqChangeS.l0, if_pos (by omega), if_pos (by omega), if_pos (by omega), laws_eqChange.refl, Option.bind_some, if_pos rfl, w64 (by omega) (by omega)]
    rfl
theorem laws_eqChangeS.ev (l : List S109) (hs : l.length ≤ 1048576) : Ev (fun k => laws_eqChangeS.f k l l) true := by
  obtain ⟨K, h⟩ := laws_eqChangeS.ev0 l hs l.length 0 (by omega)
  refine ⟨K, fun k hk => ?_⟩
  show laws_eqChangeS.f k _ _ = _
  unfold laws_eqChangeS.f
  rw [if_pos rfl]
  exact h k hk
/-- The decimal figures of k ahead of acc, with the letter m ahead. -/
def mtL : Nat → Nat → List UInt8 → List UInt8
  | 0, _, acc => 109 :: acc
  | f + 1, k, acc => if 0 < k then mtL f (k / 10) (UInt8.ofNat (48 + k % 10) :: acc) else 109 :: acc
def mtOf (k : Int) : ByteArray := if k ≤ 0 then mk [109, 48] else mk (mtL 20 k.toNat [])
theorem laws_markText.ev0 (f : Nat) : ∀ (n : Nat) (acc : List UInt8), n < 10 ^ f → n ≤ 9223372036854775807 → f + acc.length ≤ 100 → Ev (fun k => laws_markText.l0 k (n : Int) (mk acc)) (mk (mtL f n acc)) := by
  induction f with
  | zero =>
    intro n acc hn hn2 hl
    have hsz := mk_size acc
    refine ⟨1, fun k hk => ?_⟩
    obtain ⟨k, rfl⟩ : ∃ m, k = m + 1 := ⟨k - 1, by omega⟩
    show laws_markText.l0 (k + 1) _ _ = _
    rw [laws_markText.l0, if_neg (by simp at hn; omega), if_pos (by omega), show (⟨#[109]⟩ : ByteArray) = mk [109] from rfl, mk_append]
    rfl
  | succ f ih =>
    intro n acc hn hn2 hl
    have hsz := mk_size acc
    by_cases h : 0 < n
    · have e1 : Hd (Int.tmod (n : Int) 10 = ((n % 10 : Nat) : Int)) := Hd.mk <| tmod_nat n 10
      have e2 : Hd (Int.tdiv (n : Int) 10 = ((n / 10 : Nat) : Int)) := Hd.mk <| tdiv_nat n 10
      have e3 : Hd (([(wrap64 (48 + ((n % 10 : Nat) : Int))) % 256] : List Int) = nm [UInt8.ofNat (48 + n % 10)]) := Hd.mk <| by
        rw [nm_u8 _ (by omega), w64 (by omega) (by omega)]
        congr 1
        omega
      have hd : n / 10 < 10 ^ f := by
        rw [Nat.pow_succ] at hn
        omega
      rw [mtL, if_pos h]
      refine Ev.step (fun k => ?_) (ih (n / 10) (UInt8.ofNat (48 + n % 10) :: acc) hd (by omega) (by simp; omega))
      show laws_markText.l0 (k + 1) _ _ = laws_markText.l0 k _ _
      rw [laws_markText.l0, if_pos (by omega), e1.out, e2.out, e3.out, Option.bind_some, strOf_nm, if_pos (by rw [mk_size]; simp; omega), mk_append]
      congr 1
      exact w64 (by omega) (by omega)
    · rw [mtL, if_neg h]
      refine ⟨1, fun k hk => ?_⟩
      obtain ⟨k, rfl⟩ : ∃ m, k = m + 1 := ⟨k - 1, by omega⟩
      show laws_markText.l0 (k + 1) _ _ = _
      rw [laws_markText.l0, if_neg (by omega), if_pos (by omega), show (⟨#[109]⟩ : ByteArray) = mk [109] from rfl, mk_append]
      rfl
theorem laws_markText.ev (n : Int) (h : n ≤ 9223372036854775807) : Ev (fun k => laws_markText.f k n) (mtOf n) := by
  unfold mtOf
  by_cases h0 : n ≤ 0
  · rw [if_pos h0]
    refine ⟨0, fun k _ => ?_⟩
    show laws_markText.f k _ = _
    unfold laws_markText.f
    rw [if_pos h0]
    rfl
  · rw [if_neg h0]
    obtain ⟨m, rfl⟩ := Int.eq_ofNat_of_zero_le (show 0 ≤ n by omega)
    obtain ⟨K, hK⟩ := laws_markText.ev0 20 m [] (by omega) (by omega) (by simp)
    refine ⟨K, fun k hk => ?_⟩
    show laws_markText.f k _ = _
    unfold laws_markText.f
    rw [if_neg h0]
    exact hK k hk
/-- What a marked list is. -/
def msChange (k : Nat) : List S109 → List S109
  | [] => []
  | _ :: l => ⟨mtOf ((k : Nat) : Int), mtOf ((k + 1 : Nat) : Int), (Int.tmod ((k + 2 : Nat) : Int) 3 == 0)⟩ :: msChange (k + 3) l
theorem msChange_length : ∀ (l : List S109) (k : Nat), (msChange k l).length = l.length
  | [], _ => rfl
  | _ :: l, k => by simp [msChange, msChange_length l (k + 3)]
theorem laws_markChangeS.ev0 (d : Nat) : ∀ (i n : Nat) (x : List S109), i + d = x.length → n + 3 * d ≤ 4611686018427387904 → x.length ≤ 1048576 →
    Ev (fun k => laws_markChangeS.l0 k x (n : Int) (i : Int)) (((n + 3 * d : Nat) : Int), x.take i ++ msChange n (x.drop i)) := by
  induction d with
  | zero =>
    intro i n x hi hn hx
    refine ⟨1, fun k hk => ?_⟩
    obtain ⟨k, rfl⟩ : ∃ m, k = m + 1 := ⟨k - 1, by omega⟩
    show laws_markChangeS.l0 (k + 1) _ _ _ = _
    rw [laws_markChangeS.l0, if_neg (by omega), List.drop_eq_nil_of_le (by omega), List.take_of_length_le (by omega)]
    simp [msChange]
  | succ d ih =>
    intro i n x hi hn hx
    have hlt : i < x.length := by omega
    obtain ⟨K0, h0⟩ := laws_markText.ev ((n : Nat) : Int) (by omega)
    obtain ⟨K1, h1⟩ := laws_markText.ev ((n + 1 : Nat) : Int) (by omega)
    obtain ⟨K9, h9⟩ := ih (i + 1) (n + 3) (x.set i ⟨mtOf ((n : Nat) : Int), mtOf ((n + 1 : Nat) : Int), (Int.tmod ((n + 2 : Nat) : Int) 3 == 0)⟩) (by simp; omega) (by omega) (by simp; omega)
    dsimp only at h0 h1 h9
    refine ⟨K0 + K1 + K9 + 1, fun k hk => ?_⟩
    obtain ⟨k, rfl⟩ : ∃ m, k = m + 1 := ⟨k - 1, by omega⟩
    show laws_markChangeS.l0 (k + 1) _ _ _ = _
    have h0' := h0 k (by omega)
    have h1' := h1 k (by omega)
    have h9' := h9 k (by omega)
    have e1 : Hd (wrap64 (((n : Nat) : Int) + 1) = ((n + 1 : Nat) : Int)) := Hd.mk <| by rw [w64 (by omega) (by omega)]; rfl
    have e2 : Hd (wrap64 (((n + 1 : Nat) : Int) + 1) = ((n + 2 : Nat) : Int)) := Hd.mk <| by rw [w64 (by omega) (by omega)]; rfl
    have e3 : Hd (wrap64 (((n + 2 : Nat) : Int) + 1) = ((n + 3 : Nat) : Int)) := Hd.mk <| by rw [w64 (by omega) (by omega)]; rfl
    have ei : Hd (wrap64 ((i : Int) + 1) = ((i + 1 : Nat) : Int)) := Hd.mk <| by rw [w64 (by omega) (by omega)]; rfl
    have hrd : ∀ a : S109, rd_T109 (x.set i a) (i : Int) = a := fun a => by
      rw [rdI_Change _ i (by simp; omega)]
      simp
    rw [laws_markChangeS.l0]
    simp only [if_pos (show (i : Int) < (x.length : Int) by omega), if_pos (show (0 : Int) ≤ (i : Int) by omega), Int.toNat_natCast, e1.out, e2.out, e3.out, ei.out, h0', h1', Option.bind_some, hrd, List.set_set]
    refine h9'.trans ?_
    congr 2
    · omega
    · rw [List.drop_eq_getElem_cons hlt, msChange, List.take_succ_eq_append_getElem (by simp; omega), List.drop_set_of_lt (by omega), List.take_set_of_le (by omega)]
      simp
theorem laws_markChangeS.ev (l : List S109) (hs : l.length ≤ 1048576) (n : Nat) (hn : n ≤ 1099511627776) : Ev (fun k => laws_markChangeS.f k l (n : Int)) (((n + 3 * l.length : Nat) : Int), msChange n l) := by
  obtain ⟨K, h⟩ := laws_markChangeS.ev0 l.length 0 n l (by omega) (by omega) hs
  dsimp only at h
  refine ⟨K, fun k hk => ?_⟩
  show laws_markChangeS.f k _ _ = _
  unfold laws_markChangeS.f
  have := h k hk
  simpa using this
theorem laws_szBatch.ev (v : Int) (l : List S158) (hl : l.length ≤ 9223372036854775807) (hw : ∀ x ∈ l, x.f0.size ≤ 9223372036854775807 ∧ x.f1.size ≤ 9223372036854775807) (n : Int) (h0 : 0 ≤ n) (h1 : n ≤ 1048576) :
    ∃ r, Ev (fun k => laws_szBatch.f k v l n) r ∧ (0 ≤ r → l.length ≤ 1048576 ∧ r ≤ n) := by
  obtain ⟨r, ⟨K, hK⟩, hf⟩ := laws_szChangeS.ev l hl hw n h0 h1
  by_cases hr : r < 0
  · refine ⟨-1, ⟨K, fun k hk => ?_⟩, fun h => by omega⟩
    show laws_szBatch.f k _ _ _ = _
    unfold laws_szBatch.f
    have := hK k hk
    dsimp only at this
    rw [this, Option.bind_some, if_pos hr]
  · refine ⟨r, ⟨K, fun k hk => ?_⟩, fun h => ⟨(hf h).1, (hf h).2.2⟩⟩
    show laws_szBatch.f k _ _ _ = _
    unfold laws_szBatch.f
    have := hK k hk
    dsimp only at this
    rw [this, Option.bind_some, if_neg hr]
theorem laws_toBatch.ev (v : Int) (l : List S158) (hl : l.length ≤ 1048576) : Ev (fun k => laws_toBatch.f k v l) (v, l.map cvChange) := by
  obtain ⟨K, hK⟩ := laws_toChangeS.ev l hl
  refine ⟨K, fun k hk => ?_⟩
  show laws_toBatch.f k _ _ = _
  unfold laws_toBatch.f
  have := hK k hk
  dsimp only at this
  rw [this, Option.bind_some]
theorem laws_eqBatch.ev (v : Int) (l : List S109) (hl : l.length ≤ 1048576) : Ev (fun k => laws_eqBatch.f k v l v l) true := by
  obtain ⟨K, hK⟩ := laws_eqChangeS.ev l hl
  refine ⟨K, fun k hk => ?_⟩
  show laws_eqBatch.f k _ _ _ _ = _
  unfold laws_eqBatch.f
  have := hK k hk
  dsimp only at this
  rw [if_pos rfl, this, Option.bind_some, if_pos rfl]
theorem laws_markBatch.ev (v : Int) (l : List S109) (hl : l.length ≤ 1048576) (n : Nat) (hn : n ≤ 1099511627776) : Ev (fun k => laws_markBatch.f k v l (n : Int)) (((n + 3 * l.length : Nat) : Int), msChange n l) := by
  obtain ⟨K, hK⟩ := laws_markChangeS.ev l hl n hn
  refine ⟨K, fun k hk => ?_⟩
  show laws_markBatch.f k _ _ _ = _
  unfold laws_markBatch.f
  have := hK k hk
  dsimp only at this
  rw [this, Option.bind_some]
theorem laws_szPair.is (a0 : ByteArray) (a1 : ByteArray) (n : Int) (h0 : 0 ≤ n) (h1 : n ≤ 1048576) (b0 : a0.size ≤ 9223372036854775807) (b1 : a1.size ≤ 9223372036854775807) : ∃ r, laws_szPair.f a0 a1 n = some r ∧ (0 ≤ r → a0.size ≤ 1048576 ∧ a1.size ≤ 1048576 ∧ r ≤ n) := by
  unfold laws_szPair.f
  rw [w64 (x := n - (a0.size : Int)) (by omega) (by omega)]
  by_cases c0 : n - (a0.size : Int) < 0
  · rw [if_pos c0]; exact ⟨_, rfl, fun h => by omega⟩
  rw [if_neg c0]
  rw [w64 (x := n - (a0.size : Int) - (a1.size : Int)) (by omega) (by omega)]
  by_cases c1 : n - (a0.size : Int) - (a1.size : Int) < 0
  · rw [if_pos c1]; exact ⟨_, rfl, fun h => by omega⟩
  rw [if_neg c1]
  exact ⟨_, rfl, fun h => by omega⟩
theorem rdL_Pair (l : List S129) (n : Nat) (h : n < l.length) : rd_T129 l (n : Int) = l[n] := by
  show l.getD n z129 = _
  simp [List.getD_eq_getElem?_getD, List.getElem?_eq_getElem h]
theorem laws_szPairS.ev0 (l : List S129) (hl : l.length ≤ 1048576) (hw : ∀ x ∈ l, x.f0.size ≤ 9223372036854775807 ∧ x.f1.size ≤ 9223372036854775807) (d : Nat) : ∀ (i : Nat) (n : Int), i + d = l.length → 0 ≤ n → n ≤ 1048576 →
    ∃ r, Ev (fun k => laws_szPairS.l0 k l n (i : Int)) r ∧ (0 ≤ r → (∀ x ∈ l.drop i, x.f0.size ≤ 1048576 ∧ x.f1.size ≤ 1048576) ∧ r ≤ n) := by
  induction d with
  | zero =>
    intro i n hi h0 h1
    refine ⟨n, ⟨1, fun k hk => ?_⟩, fun _ => ⟨fun x hx => (by rw [List.drop_eq_nil_of_le (by omega)] at hx; cases hx), by omega⟩⟩
    obtain ⟨k, rfl⟩ : ∃ m, k = m + 1 := ⟨k - 1, by omega⟩
    show laws_szPairS.l0 (k + 1) _ _ _ = _
    rw [laws_szPairS.l0, if_neg (by omega)]
  | succ d ih =>
    intro i n hi h0 h1
    have hlt : i < l.length := by omega
    have hm := hw l[i] (List.getElem_mem hlt)
    obtain ⟨r, hr, hf⟩ := laws_szPair.is l[i].f0 l[i].f1 n h0 h1 (by omega) (by omega)
    by_cases hneg : r < 0
    · refine ⟨-1, ⟨1, fun k hk => ?_⟩, fun h => by omega⟩
      obtain ⟨k, rfl⟩ : ∃ m, k = m + 1 := ⟨k - 1, by omega⟩
      show laws_szPairS.l0 (k + 1) _ _ _ = _
      rw [laws_szPairS.l0, if_pos (by omega), if_pos (by omega), rdL_Pair l i hlt, hr, Option.bind_some, if_pos hneg]
    · have hf' := hf (by omega)
      obtain ⟨r', h', hf2⟩ := ih (i + 1) r (by omega) (by omega) (by omega)
      refine ⟨r', Ev.step (fun k => ?_) h', fun hr' => ⟨fun x hx => ?_, by have := (hf2 hr').2; omega⟩⟩
      · show laws_szPairS.l0 (k + 1) _ _ _ = laws_szPairS.l0 k _ _ _
        rw [laws_szPairS.l0, if_pos (by omega), if_pos (by omega), rdL_Pair l i hlt, hr, Option.bind_some, if_neg hneg, w64 (by omega) (by omega)]
        rfl
      · rw [List.drop_eq_getElem_cons hlt] at hx
        rcases List.mem_cons.1 hx with rfl | hx
        · omega
        · exact (hf2 hr').1 x hx
theorem laws_szPairS.ev (l : List S129) (hl : l.length ≤ 9223372036854775807) (hw : ∀ x ∈ l, x.f0.size ≤ 9223372036854775807 ∧ x.f1.size ≤ 9223372036854775807) (n : Int) (h0 : 0 ≤ n) (h1 : n ≤ 1048576) :
    ∃ r, Ev (fun k => laws_szPairS.f k l n) r ∧ (0 ≤ r → l.length ≤ 1048576 ∧ (∀ x ∈ l, x.f0.size ≤ 1048576 ∧ x.f1.size ≤ 1048576) ∧ r ≤ n) := by
  have e : Hd (wrap64 (n - (l.length : Int)) = n - (l.length : Int)) := Hd.mk <| w64 (by omega) (by omega)
  by_cases h : n - (l.length : Int) < 0
  · refine ⟨-1, ⟨0, fun k hk => ?_⟩, fun h => by omega⟩
    show laws_szPairS.f k _ _ = _
    unfold laws_szPairS.f
    rw [e.out, if_pos h]
  · obtain ⟨r, ⟨K, hK⟩, hf⟩ := laws_szPairS.ev0 l (by omega) hw l.length 0 (n - (l.length : Int)) (by omega) (by omega) (by omega)
    refine ⟨r, ⟨K, fun k hk => ?_⟩, fun h => ⟨by omega, (hf h).1, by have := (hf h).2; omega⟩⟩
    show laws_szPairS.f k _ _ = _
    unfold laws_szPairS.f
    rw [e.out, if_neg h]
    exact hK k hk
def cvPair (x : S129) : S59 := ⟨x.f0, x.f1⟩
theorem laws_toPairS.ev0 (l : List S129) (hs : l.length ≤ 1048576) (d : Nat) : ∀ (i : Nat) (x : List S59), i + d = l.length → x.length = l.length → x.take i = (l.map cvPair).take i →
    Ev (fun k => laws_toPairS.l0 k l x (i : Int)) (l.map cvPair) := by
  have hml : (l.map cvPair).length = l.length := by simp
  induction d with
  | zero =>
    intro i x hi hx he
    refine ⟨1, fun k hk => ?_⟩
    obtain ⟨k, rfl⟩ : ∃ m, k = m + 1 := ⟨k - 1, by omega⟩
    show laws_toPairS.l0 (k + 1) _ _ _ = _
    rw [laws_toPairS.l0, if_neg (by omega)]
    rw [List.take_of_length_le (by omega), List.take_of_length_le (by omega)] at he
    rw [he]
  | succ d ih =>
    intro i x hi hx he
    have hlt : i < l.length := by omega
    refine Ev.step (fun k => ?_) (ih (i + 1) (x.set i (cvPair l[i])) (by omega) (by simp; omega) ?_)
    · show laws_toPairS.l0 (k + 1) _ _ _ = laws_toPairS.l0 k _ _ _
      rw [laws_toPairS.l0, if_pos (by omega), if_pos (by omega), rdL_Pair l i hlt]
      unfold laws_toPair.f
      rw [Option.bind_some, if_pos (by omega), w64 (by omega) (by omega)]
      rfl
    · rw [List.take_succ_eq_append_getElem (by simp; omega), List.take_succ_eq_append_getElem (by simp; omega), List.take_set_of_le (by omega), he]
      simp
theorem laws_toPairS.ev (l : List S129) (hs : l.length ≤ 1048576) : Ev (fun k => laws_toPairS.f k l) (l.map cvPair) := by
  obtain ⟨K, h⟩ := laws_toPairS.ev0 l hs l.length 0 (List.replicate l.length z59) (by omega) (by simp) (by simp)
  dsimp only at h
  refine ⟨K, fun k hk => ?_⟩
  show laws_toPairS.f k _ = _
  unfold laws_toPairS.f
  rw [if_pos (by omega), if_pos (by omega)]
  exact h k hk
theorem laws_eqPair.refl (a0 : ByteArray) (a1 : ByteArray) : laws_eqPair.f a0 a1 a0 a1 = some true := by
  unfold laws_eqPair.f
  simp
theorem laws_eqPairS.ev0 (l : List S59) (hs : l.length ≤ 1048576) (d : Nat) : ∀ (i : Nat), i + d = l.length → Ev (fun k => laws_eqPairS.l0 k l l (i : Int)) true := by
  induction d with
  | zero =>
    intro i hi
    refine ⟨1, fun k hk => ?_⟩
    obtain ⟨k, rfl⟩ : ∃ m, k = m + 1 := ⟨k - 1, by omega⟩
    show laws_eqPairS.l0 (k + 1) _ _ _ = _
    rw [laws_eqPairS.l0, if_neg (by omega)]
  | succ d ih =>
    intro i hi
    refine Ev.step (fun k => ?_) (ih (i + 1) (by omega))
    show laws_eqPairS.l0 (k + 1) _ _ _ = laws_eqPairS.l0 k _ _ _
    rw [laws_eqPairS.l0, if_pos (by omega), if_pos (by omega), if_pos (by omega), laws_eqPair.refl, Option.bind_some, if_pos rfl, w64 (by omega) (by omega)]
    rfl
theorem laws_eqPairS.ev (l : List S59) (hs : l.length ≤ 1048576) : Ev (fun k => laws_eqPairS.f k l l) true := by
  obtain ⟨K, h⟩ := laws_eqPairS.ev0 l hs l.length 0 (by omega)
  refine ⟨K, fun k hk => ?_⟩
  show laws_eqPairS.f k _ _ = _
  unfold laws_eqPairS.f
  rw [if_pos rfl]
  exact h k hk
/-- What a marked list is. -/
def msPair (k : Nat) : List S59 → List S59
  | [] => []
  | _ :: l => ⟨mtOf ((k : Nat) : Int), mtOf ((k + 1 : Nat) : Int)⟩ :: msPair (k + 2) l
theorem msPair_length : ∀ (l : List S59) (k : Nat), (msPair k l).length = l.length
  | [], _ => rfl
  | _ :: l, k => by simp [msPair, msPair_length l (k + 2)]
theorem laws_markPairS.ev0 (d : Nat) : ∀ (i n : Nat) (x : List S59), i + d = x.length → n + 2 * d ≤ 4611686018427387904 → x.length ≤ 1048576 →
    Ev (fun k => laws_markPairS.l0 k x (n : Int) (i : Int)) (((n + 2 * d : Nat) : Int), x.take i ++ msPair n (x.drop i)) := by
  induction d with
  | zero =>
    intro i n x hi hn hx
    refine ⟨1, fun k hk => ?_⟩
    obtain ⟨k, rfl⟩ : ∃ m, k = m + 1 := ⟨k - 1, by omega⟩
    show laws_markPairS.l0 (k + 1) _ _ _ = _
    rw [laws_markPairS.l0, if_neg (by omega), List.drop_eq_nil_of_le (by omega), List.take_of_length_le (by omega)]
    simp [msPair]
  | succ d ih =>
    intro i n x hi hn hx
    have hlt : i < x.length := by omega
    obtain ⟨K0, h0⟩ := laws_markText.ev ((n : Nat) : Int) (by omega)
    obtain ⟨K1, h1⟩ := laws_markText.ev ((n + 1 : Nat) : Int) (by omega)
    obtain ⟨K9, h9⟩ := ih (i + 1) (n + 2) (x.set i ⟨mtOf ((n : Nat) : Int), mtOf ((n + 1 : Nat) : Int)⟩) (by simp; omega) (by omega) (by simp; omega)
    dsimp only at h0 h1 h9
    refine ⟨K0 + K1 + K9 + 1, fun k hk => ?_⟩
    obtain ⟨k, rfl⟩ : ∃ m, k = m + 1 := ⟨k - 1, by omega⟩
    show laws_markPairS.l0 (k + 1) _ _ _ = _
    have h0' := h0 k (by omega)
    have h1' := h1 k (by omega)
    have h9' := h9 k (by omega)
    have e1 : Hd (wrap64 (((n : Nat) : Int) + 1) = ((n + 1 : Nat) : Int)) := Hd.mk <| by rw [w64 (by omega) (by omega)]; rfl
    have e2 : Hd (wrap64 (((n + 1 : Nat) : Int) + 1) = ((n + 2 : Nat) : Int)) := Hd.mk <| by rw [w64 (by omega) (by omega)]; rfl
    have ei : Hd (wrap64 ((i : Int) + 1) = ((i + 1 : Nat) : Int)) := Hd.mk <| by rw [w64 (by omega) (by omega)]; rfl
    have hrd : ∀ a : S59, rd_T59 (x.set i a) (i : Int) = a := fun a => by
      rw [rdI_Pair _ i (by simp; omega)]
      simp
    rw [laws_markPairS.l0]
    simp only [if_pos (show (i : Int) < (x.length : Int) by omega), if_pos (show (0 : Int) ≤ (i : Int) by omega), Int.toNat_natCast, e1.out, e2.out, ei.out, h0', h1', Option.bind_some, hrd, List.set_set]
    refine h9'.trans ?_
    congr 2
    · omega
    · rw [List.drop_eq_getElem_cons hlt, msPair, List.take_succ_eq_append_getElem (by simp; omega), List.drop_set_of_lt (by omega), List.take_set_of_le (by omega)]
      simp
theorem laws_markPairS.ev (l : List S59) (hs : l.length ≤ 1048576) (n : Nat) (hn : n ≤ 1099511627776) : Ev (fun k => laws_markPairS.f k l (n : Int)) (((n + 2 * l.length : Nat) : Int), msPair n l) := by
  obtain ⟨K, h⟩ := laws_markPairS.ev0 l.length 0 n l (by omega) (by omega) hs
  dsimp only at h
  refine ⟨K, fun k hk => ?_⟩
  show laws_markPairS.f k _ _ = _
  unfold laws_markPairS.f
  have := h k hk
  simpa using this
theorem laws_heldPairS.ev0 (l : List S59) (d : Nat) : ∀ (i n : Nat) (x : List S59), i + d = x.length → n + 2 * d ≤ 4611686018427387904 → x.length ≤ 1048576 → (∃ y : List S59, x.drop i = msPair n y) →
    Ev (fun k => laws_heldPairS.l0 k x (n : Int) (i : Int)) ((n + 2 * d : Nat) : Int) := by
  induction d with
  | zero =>
    intro i n x hi hn hx hy
    refine ⟨1, fun k hk => ?_⟩
    obtain ⟨k, rfl⟩ : ∃ m, k = m + 1 := ⟨k - 1, by omega⟩
    show laws_heldPairS.l0 (k + 1) _ _ _ = _
    rw [laws_heldPairS.l0, if_neg (by omega)]
    rfl
  | succ d ih =>
    intro i n x hi hn hx hy
    obtain ⟨y, hy⟩ := hy
    have hlt : i < x.length := by omega
    rw [List.drop_eq_getElem_cons hlt] at hy
    cases y with
    | nil => exact absurd hy (List.cons_ne_nil _ _)
    | cons y0 y =>
      rw [msPair, List.cons_eq_cons] at hy
      obtain ⟨K0, h0⟩ := laws_markText.ev ((n : Nat) : Int) (by omega)
      obtain ⟨K1, h1⟩ := laws_markText.ev ((n + 1 : Nat) : Int) (by omega)
      obtain ⟨K9, h9⟩ := ih (i + 1) (n + 2) x (by omega) (by omega) hx ⟨y, hy.2⟩
      dsimp only at h0 h1 h9
      refine ⟨K0 + K1 + K9 + 1, fun k hk => ?_⟩
      obtain ⟨k, rfl⟩ : ∃ m, k = m + 1 := ⟨k - 1, by omega⟩
      show laws_heldPairS.l0 (k + 1) _ _ _ = _
      have h0' := h0 k (by omega)
      have h1' := h1 k (by omega)
      have h9' := h9 k (by omega)
      have e1 : Hd (wrap64 (((n : Nat) : Int) + 1) = ((n + 1 : Nat) : Int)) := Hd.mk <| by rw [w64 (by omega) (by omega)]; rfl
      have e2 : Hd (wrap64 (((n + 1 : Nat) : Int) + 1) = ((n + 2 : Nat) : Int)) := Hd.mk <| by rw [w64 (by omega) (by omega)]; rfl
      have ei : Hd (wrap64 ((i : Int) + 1) = ((i + 1 : Nat) : Int)) := Hd.mk <| by rw [w64 (by omega) (by omega)]; rfl
      have g0 : (rd_T59 x (i : Int)).f0 = mtOf ((n : Nat) : Int) := by rw [rdI_Pair x i hlt, hy.1]
      have g1 : (rd_T59 x (i : Int)).f1 = mtOf ((n + 1 : Nat) : Int) := by rw [rdI_Pair x i hlt, hy.1]
      rw [laws_heldPairS.l0]
      simp only [if_pos (show (i : Int) < (x.length : Int) by omega), if_pos (show (0 : Int) ≤ (i : Int) by omega), e1.out, e2.out, ei.out, h0', h1', Option.bind_some, g0, g1, if_true, bne_self_eq_false, Bool.false_eq_true, if_false]
      refine h9'.trans ?_
      congr 1
      omega
theorem laws_heldPairS.ev (l : List S59) (hs : l.length ≤ 1048576) (n : Nat) (hn : n ≤ 1099511627776) : Ev (fun k => laws_heldPairS.f k (msPair n l) (n : Int)) ((n + 2 * l.length : Nat) : Int) := by
  have hl := msPair_length l n
  obtain ⟨K, h⟩ := laws_heldPairS.ev0 l l.length 0 n (msPair n l) (by omega) (by omega) (by omega) ⟨l, rfl⟩
  exact ⟨K, fun k hk => h k hk⟩
theorem FnExactMapDo : ∀ (l0 : List S129) (a1_0 : Int) (l1_1 : List S158), (l0.length ≤ maxLen ∧ ∀ y ∈ l0, (y.f0.size ≤ maxLen) ∧ (y.f1.size ≤ maxLen)) → ((Lit.int .i64 a1_0).wf = true) → (l1_1.length ≤ maxLen ∧ ∀ y ∈ l1_1, (y.f0.size ≤ maxLen) ∧ (y.f1.size ≤ maxLen) ∧ (True)) → ∃ k, laws_FnExactMapDo.f k l0 a1_0 l1_1 = some true := by
  intro l v cs hw h0 hc
  unfold maxLen at hw hc
  obtain ⟨r, ⟨K0, h0⟩, hf⟩ := laws_szPairS.ev l hw.1 hw.2 1048576 (by omega) (by omega)
  dsimp only at h0
  by_cases hr : r < 0
  · refine ⟨K0, ?_⟩
    unfold laws_FnExactMapDo.f
    rw [h0 _ (by omega), Option.bind_some, if_pos hr]
  obtain ⟨hl, _, hrn⟩ := hf (by omega)
  obtain ⟨r2, ⟨K9, h9⟩, hf2⟩ := laws_szBatch.ev v cs hc.1 (fun x hx => ⟨(hc.2 x hx).1, (hc.2 x hx).2.1⟩) r (by omega) (by omega)
  dsimp only at h9
  by_cases hn2 : r2 < 0
  · refine ⟨K0 + K9, ?_⟩
    unfold laws_FnExactMapDo.f
    rw [h0 _ (by omega), Option.bind_some, if_neg hr, h9 _ (by omega), Option.bind_some, if_pos hn2]
  have hcl := (hf2 (by omega)).1
  have hml : (l.map cvPair).length ≤ 1048576 := by simpa using hl
  have hmc : (cs.map cvChange).length ≤ 1048576 := by simpa using hcl
  obtain ⟨K1, h1⟩ := spec_MapDo.ev (l.map cvPair) hml v (cs.map cvChange) hmc
  obtain ⟨K2, h2⟩ := impl_MapDo.ev (l.map cvPair) hml v (cs.map cvChange) hmc
  have hbl := mapDoOf_len (l.map cvPair) v (cs.map cvChange)
  generalize mapDoOf (l.map cvPair) v (cs.map cvChange) = B at h1 h2 hbl
  obtain ⟨B, b⟩ := B
  dsimp only at hbl
  obtain ⟨K3, h3⟩ := laws_toPairS.ev l hl
  obtain ⟨K4, h4⟩ := laws_eqPairS.ev (l.map cvPair) hml
  obtain ⟨K5, h5⟩ := laws_eqPairS.ev B (by omega)
  obtain ⟨K6, h6⟩ := laws_markPairS.ev (l.map cvPair) hml 1 (by omega)
  obtain ⟨K7, h7⟩ := laws_markPairS.ev B (by omega) 1 (by omega)
  obtain ⟨K8, h8⟩ := laws_heldPairS.ev B (by omega) 1 (by omega)
  obtain ⟨K10, h10⟩ := laws_toBatch.ev v cs hcl
  obtain ⟨K11, h11⟩ := laws_eqBatch.ev v (cs.map cvChange) hmc
  obtain ⟨K12, h12⟩ := laws_markBatch.ev v (cs.map cvChange) hmc (1 + 2 * (l.map cvPair).length) (by omega)
  dsimp only at h1 h2 h3 h4 h5 h6 h7 h8 h10 h11 h12
  refine ⟨K0 + K1 + K2 + K3 + K4 + K5 + K6 + K7 + K8 + K9 + K10 + K11 + K12 + 3, ?_⟩
  generalize hk : K0 + K1 + K2 + K3 + K4 + K5 + K6 + K7 + K8 + K9 + K10 + K11 + K12 = k
  unfold laws_FnExactMapDo.f
  rw [h0 _ (by omega), Option.bind_some, if_neg hr, h9 _ (by omega), Option.bind_some, if_neg hn2, h3 _ (by omega), Option.bind_some, h10 _ (by omega), Option.bind_some, h1 _ (by omega), Option.bind_some, Option.bind_some, Option.bind_some, h2 _ (by omega), Option.bind_some, h5 _ (by omega), Option.bind_some, if_pos rfl]
  rw [laws_FnExactMapDo.j0, if_neg (by simp), h3 _ (by omega), Option.bind_some, h4 _ (by omega), Option.bind_some, if_pos rfl, h10 _ (by omega), Option.bind_some, h11 _ (by omega), Option.bind_some, if_pos rfl, show (1 : Int) = ((1 : Nat) : Int) from rfl, h6 _ (by omega), Option.bind_some, h12 _ (by omega), Option.bind_some, if_neg (by omega), h5 _ (by omega), Option.bind_some, if_pos rfl]
  rw [laws_FnExactMapDo.j1, if_neg (by simp), show (1 : Int) = ((1 : Nat) : Int) from rfl, h7 _ (by omega), Option.bind_some, h8 _ (by omega), Option.bind_some, if_neg (by omega), if_pos rfl, h3 _ (by omega), Option.bind_some, h10 _ (by omega), Option.bind_some, h2 _ (by omega), Option.bind_some, h5 _ (by omega), Option.bind_some, if_pos rfl]
  rw [laws_FnExactMapDo.j2, if_neg (by simp), show (1 : Int) = ((1 : Nat) : Int) from rfl, h8 _ (by omega), Option.bind_some, if_neg (by omega), if_pos rfl]

end Go.Proofs.Ytpjhbhjmaggheaa.Pure
