/- The law FnMaps, over numbers and lists: for every input that the statement speaks of the printed function answers true; conditions: those of the printed statement. -/
import Derived.Test.YtpjhbhjmaggheaaQFnMapsx1
import Derived.Test.YtpjhbhjmaggheaaQFnMapsx2
import Derived.Test.YtpjhbhjmaggheaaQFnMapsx3
import Derived.Test.YtpjhbhjmaggheaaQFnMapsx4
import Derived.Test.YtpjhbhjmaggheaaQFnMapsx5
import Derived.Test.YtpjhbhjmaggheaaQFnMapsx6
import Derived.Test.YtpjhbhjmaggheaaQFnMapsx7
import Derived.Test.YtpjhbhjmaggheaaQFnMapsx8
import Derived.Laws.BitsAllLaws
import Derived.Sort.Walk0
import Derived.Lib.Bytealg
namespace Go.Proofs.Ytpjhbhjmaggheaa.Pure
open Go.RowKit Go.Proofs.Ytpjhbhjmaggheaa.QFnMaps Go.Proofs.YtpjhbhjmaggheaaW.PrintWords Go.Proofs.YtpjhbhjmaggheaaW.PrintLast Go.Proofs.YtpjhbhjmaggheaaW.PrintMore
set_option linter.unusedVariables false
set_option linter.unusedSimpArgs false

/-! ### strings as lists of bytes -/
def mk (l : List UInt8) : ByteArray := ⟨l.toArray⟩
def nm (l : List UInt8) : List Int := l.map fun b => (b.toNat : Int)
theorem mk_of (s : ByteArray) : ∃ l, s = mk l := ⟨s.data.toList, rfl⟩
theorem mk_data (l : List UInt8) : (mk l).data.toList = l := rfl
theorem mk_toList (l : List UInt8) : (mk l).toList = l := by rw [ByteArray.toList_eq]; rfl
theorem mk_size (l : List UInt8) : (mk l).size = l.length := List.size_toArray
theorem mk_inj {a b : List UInt8} (h : mk a = mk b) : a = b := by rw [← mk_data a, h]; rfl
theorem mk_append (a b : List UInt8) : mk a ++ mk b = mk (a ++ b) := by
  apply ByteArray.ext
  rw [ByteArray.data_append]
  simp [mk]
theorem mk_extract (l : List UInt8) (i j : Nat) : (mk l).extract i j = mk ((l.drop i).take (j - i)) := by
  apply ByteArray.ext
  rw [ByteArray.data_extract]
  apply Array.ext'
  simp [mk, List.take_drop]
theorem mk_nil : (⟨#[]⟩ : ByteArray) = mk [] := rfl
theorem nm_append (a b : List UInt8) : nm (a ++ b) = nm a ++ nm b := by simp [nm]
theorem nm_length (a : List UInt8) : (nm a).length = a.length := by simp [nm]
theorem nm_nil : ([] : List Int) = nm [] := rfl
theorem strOf_nm (l : List UInt8) : strOfNums (nm l) = mk l := by
  unfold strOfNums nm mk
  rw [List.map_map]
  congr 1
  have : ∀ l : List UInt8, List.map ((fun n : Int => UInt8.ofNat n.toNat) ∘ fun b : UInt8 => (b.toNat : Int)) l = l := by
    intro l
    induction l with
    | nil => rfl
    | cons a l ih => rw [List.map_cons, ih]; simp
  rw [this]
theorem bt_mk (l : List UInt8) (n : Nat) (h : n < l.length) : bt (mk l) (n : Int) = ((l[n]).toNat : Int) := by
  unfold bt
  rw [dif_pos (show (n : Int).toNat < (mk l).size by rw [mk_size]; omega)]
  rfl
/-- A fact that omega doesn't look into. -/
structure Hd (p : Prop) : Prop where
  mk :: (out : p)
theorem w64 {x : Int} (h0 : -9223372036854775808 ≤ x) (h1 : x ≤ 9223372036854775807) : wrap64 x = x := by
  unfold wrap64
  omega
theorem nm_u8 (n : Nat) (h : n < 256) : nm [UInt8.ofNat n] = [(n : Int)] := by
  simp [nm]
  omega
theorem tmod_nat (x d : Nat) : Int.tmod (x : Int) (d : Int) = ((x % d : Nat) : Int) := by
  rw [Int.tmod_eq_emod_of_nonneg (by omega)]
  exact (Int.natCast_emod x d).symm
theorem tdiv_nat (x d : Nat) : Int.tdiv (x : Int) (d : Int) = ((x / d : Nat) : Int) := by
  rw [Int.tdiv_eq_ediv_of_nonneg (by omega)]
  exact (Int.natCast_ediv x d).symm
theorem drop_cons (l : List UInt8) (i : Nat) (h : i < l.length) : l.drop i = l[i] :: l.drop (i + 1) := List.drop_eq_getElem_cons h
/-! ### the order of strings -/
theorem bless (a b : List UInt8) : Op.bytesLess a b = decide (a < b) := Proofs.bytesLess_eq a b
theorem cmpB_lt : ∀ a b : List UInt8, Lib.compareBytes a b < 0 ↔ a < b
  | [], [] => by simp [Lib.compareBytes]
  | [], _ :: _ => by simp [Lib.compareBytes]
  | _ :: _, [] => by simp [Lib.compareBytes]
  | a :: xs, b :: ys => by
    rw [List.cons_lt_cons_iff, ← cmpB_lt xs ys, Lib.compareBytes]
    by_cases h : a < b
    · simp [h]
    · by_cases h2 : b < a
      · have : a ≠ b := by rintro rfl; exact h h2
        simp [h, h2, this]
      · have : a = b := UInt8.le_antisymm (UInt8.not_lt.1 h2) (UInt8.not_lt.1 h)
        simp [this]
theorem cmpB_eq : ∀ a b : List UInt8, Lib.compareBytes a b = 0 ↔ a = b
  | [], [] => by simp [Lib.compareBytes]
  | [], _ :: _ => by simp [Lib.compareBytes]
  | _ :: _, [] => by simp [Lib.compareBytes]
  | a :: xs, b :: ys => by
    rw [List.cons_eq_cons, ← cmpB_eq xs ys, Lib.compareBytes]
    by_cases h : a < b
    · have : a ≠ b := by rintro rfl; exact UInt8.lt_irrefl _ h
      simp [h, this]
    · by_cases h2 : b < a
      · have : a ≠ b := by rintro rfl; exact h h2
        simp [h, h2, this]
      · have : a = b := UInt8.le_antisymm (UInt8.not_lt.1 h2) (UInt8.not_lt.1 h)
        simp [this]
theorem bl_trans {a b c : List UInt8} (h1 : a < b) (h2 : b < c) : a < c := List.lt_trans h1 h2
theorem bl_irrefl (a : List UInt8) : ¬ a < a := List.lt_irrefl a
theorem bl_tri (a b : List UInt8) : a < b ∨ a = b ∨ b < a := by
  by_cases h : a < b
  · exact Or.inl h
  · by_cases h2 : b < a
    · exact Or.inr (Or.inr h2)
    · exact Or.inr (Or.inl (List.le_antisymm (List.not_lt.1 h2) (List.not_lt.1 h)))
def bl (s : ByteArray) : List UInt8 := s.data.toList
theorem mk_bl (s : ByteArray) : mk (bl s) = s := rfl
theorem bl_len (s : ByteArray) : (bl s).length = s.size := rfl
theorem bl_inj {a b : ByteArray} (h : bl a = bl b) : a = b := by rw [← mk_bl a, h, mk_bl]
theorem bl_toList (a : ByteArray) : a.toList = bl a := ByteArray.toList_eq a
/-- C holds at i, i + 1, .., d of them. -/
def allF (C : Nat → Bool) : Nat → Nat → Bool
  | 0, _ => true
  | d + 1, i => C i && allF C d (i + 1)
theorem allF_congr {C D : Nat → Bool} (d : Nat) : ∀ i, (∀ j, i ≤ j → j < i + d → C j = D j) → allF C d i = allF D d i := by
  induction d with
  | zero => intro i h; rfl
  | succ d ih =>
    intro i h
    simp only [allF]
    rw [h i (by omega) (by omega), ih (i + 1) (fun j h1 h2 => h j (by omega) (by omega))]
theorem allF_true {C : Nat → Bool} (d : Nat) : ∀ i, allF C d i = true ↔ ∀ j, i ≤ j → j < i + d → C j = true := by
  induction d with
  | zero => intro i; simp only [allF, true_iff]; intro j h1 h2; omega
  | succ d ih =>
    intro i
    simp only [allF, Bool.and_eq_true, ih]
    constructor
    · rintro ⟨h1, h2⟩ j h3 h4
      by_cases e : j = i
      · rw [e]; exact h1
      · exact h2 j (by omega) (by omega)
    · intro h
      exact ⟨h i (by omega) (by omega), fun j h1 h2 => h j (by omega) (by omega)⟩
theorem ev_now {α : Type} {g : Nat → Option α} {r : α} (h : ∀ k, g (k + 1) = some r) : Ev g r :=
  ⟨1, fun k hk => by obtain ⟨m, rfl⟩ : ∃ m, k = m + 1 := ⟨k - 1, by omega⟩; exact h m⟩
/-- Place i of the list: its name's and its text's sizes, and its name above the one ahead. -/
def mapC (l : List S59) (i : Nat) : Bool :=
  decide (1 ≤ ((l.getD i z59).f0.size : Int) ∧ ((l.getD i z59).f0.size : Int) ≤ 10) && (decide (((l.getD i z59).f1.size : Int) ≤ 40) && (decide (i = 0) || Op.bytesLess (l.getD (i - 1) z59).f0.toList (l.getD i z59).f0.toList))
def mapCOf (l : List S59) : Bool := decide ((l.length : Int) ≤ 60) && allF (mapC l) l.length 0
/-- The names rise. -/
def srtMap (l : List S59) : Prop := ∀ i j, i < j → j < l.length → bl (l.getD i z59).f0 < bl (l.getD j z59).f0
theorem mapC_srt {l : List S59} (h : mapCOf l = true) : srtMap l ∧ (l.length : Int) ≤ 60 ∧ ∀ i, i < l.length → (1 ≤ (l.getD i z59).f0.size ∧ (l.getD i z59).f0.size ≤ 10) ∧ (l.getD i z59).f1.size ≤ 40 := by
  unfold mapCOf at h
  simp only [Bool.and_eq_true, decide_eq_true_eq] at h
  have hC : ∀ i, i < l.length → mapC l i = true := fun i hi => (allF_true _ _).1 h.2 i (by omega) (by omega)
  have hadj : ∀ i, 0 < i → i < l.length → bl (l.getD (i - 1) z59).f0 < bl (l.getD i z59).f0 := fun i h0 hi => by
    have := hC i hi
    unfold mapC at this
    simp only [Bool.and_eq_true, Bool.or_eq_true, decide_eq_true_eq] at this
    have h2 := this.2.2.resolve_left (by omega)
    rw [bless, decide_eq_true_eq, ByteArray.toList_eq, ByteArray.toList_eq] at h2
    exact h2
  refine ⟨fun i j hij hj => ?_, h.1, fun i hi => ?_⟩
  · induction j with
    | zero => omega
    | succ j ih =>
      have hA := hadj (j + 1) (by omega) hj
      rw [Nat.add_sub_cancel] at hA
      by_cases e : i = j
      · rw [e]; exact hA
      · exact bl_trans (ih (by omega) (by omega)) hA
  · have := hC i hi
    unfold mapC at this
    simp only [Bool.and_eq_true, decide_eq_true_eq] at this
    omega
/-! ### parts of lists -/
theorem filter_take {α : Type} (p : α → Bool) (l : List α) (c : Nat) (h1 : ∀ t (h : t < l.length), t < c → p l[t] = true) (h2 : ∀ t (h : t < l.length), c ≤ t → p l[t] = false) : l.filter p = l.take c := by
  conv => lhs; rw [← List.take_append_drop c l]
  rw [List.filter_append, List.filter_eq_self.2, List.filter_eq_nil_iff.2, List.append_nil]
  · intro a ha
    obtain ⟨i, hi, rfl⟩ := List.mem_iff_getElem.1 ha
    rw [List.getElem_drop]
    rw [h2 _ _ (by omega)]
    simp
  · intro a ha
    obtain ⟨i, hi, rfl⟩ := List.mem_iff_getElem.1 ha
    rw [List.getElem_take]
    rw [List.length_take] at hi
    exact h1 _ _ (by omega)
theorem filter_drop {α : Type} (p : α → Bool) (l : List α) (c : Nat) (h1 : ∀ t (h : t < l.length), t < c → p l[t] = false) (h2 : ∀ t (h : t < l.length), c ≤ t → p l[t] = true) : l.filter p = l.drop c := by
  conv => lhs; rw [← List.take_append_drop c l]
  rw [List.filter_append, List.filter_eq_nil_iff.2, List.filter_eq_self.2, List.nil_append]
  · intro a ha
    obtain ⟨i, hi, rfl⟩ := List.mem_iff_getElem.1 ha
    rw [List.getElem_drop]
    exact h2 _ _ (by omega)
  · intro a ha
    obtain ⟨i, hi, rfl⟩ := List.mem_iff_getElem.1 ha
    rw [List.getElem_take]
    rw [List.length_take] at hi
    rw [h1 _ _ (by omega)]
    simp
theorem filter_two {α : Type} (p q : α → Bool) (h : ∀ y, p y = true → q y = true → False) : ∀ l : List α, (l.filter p).length + (l.filter q).length ≤ l.length
  | [] => by simp
  | a :: l => by
    have := filter_two p q h l
    rw [List.filter_cons, List.filter_cons]
    by_cases hp : p a = true
    · by_cases hq : q a = true
      · exact absurd hq (fun hq => h a hp hq)
      · rw [if_pos hp, if_neg hq]
        simp only [List.length_cons]
        omega
    · rw [if_neg hp]
      by_cases hq : q a = true
      · rw [if_pos hq]
        simp only [List.length_cons]
        omega
      · rw [if_neg hq]
        simp only [List.length_cons]
        omega
/-- Two rising lists with the same members are one. -/
theorem rise_ext {α : Type} (lt : α → α → Prop) (irr : ∀ a, ¬ lt a a) (tr : ∀ a b c, lt a b → lt b c → lt a c) : ∀ {l m : List α}, l.Pairwise lt → m.Pairwise lt → (∀ x, x ∈ l ↔ x ∈ m) → l = m
  | [], [], _, _, _ => rfl
  | [], b :: m, _, _, h => absurd ((h b).2 List.mem_cons_self) (by simp)
  | a :: l, [], _, _, h => absurd ((h a).1 List.mem_cons_self) (by simp)
  | a :: l, b :: m, hl, hm, h => by
    rw [List.pairwise_cons] at hl hm
    have e : a = b := by
      rcases List.mem_cons.1 ((h a).1 List.mem_cons_self) with e | e
      · exact e
      · rcases List.mem_cons.1 ((h b).2 List.mem_cons_self) with e2 | e2
        · exact e2.symm
        · exact absurd (tr _ _ _ (hl.1 _ e2) (hm.1 _ e)) (irr _)
    subst e
    rw [rise_ext lt irr tr hl.2 hm.2 fun x => ⟨fun hx => ?_, fun hx => ?_⟩]
    · rcases List.mem_cons.1 ((h x).1 (List.mem_cons_of_mem _ hx)) with e | e
      · rw [e] at hx
        exact absurd (hl.1 _ hx) (irr _)
      · exact e
    · rcases List.mem_cons.1 ((h x).2 (List.mem_cons_of_mem _ hx)) with e | e
      · rw [e] at hx
        exact absurd (hm.1 _ hx) (irr _)
      · exact e
/-! ### a name put in, a name taken out: Map -/
def ltMap (x y : S59) : Prop := bl x.f0 < bl y.f0
theorem srtMap_iff (l : List S59) : srtMap l ↔ l.Pairwise ltMap := by
  rw [List.pairwise_iff_getElem]
  have e : ∀ i (h : i < l.length), l.getD i z59 = l[i] := fun i h => by simp [List.getD_eq_getElem?_getD, List.getElem?_eq_getElem h]
  constructor
  · intro h i j hi hj hij
    have := h i j hij hj
    rw [e i hi, e j hj] at this
    exact this
  · intro h i j hij hj
    rw [e i (by omega), e j hj]
    exact h i j (by omega) hj hij
theorem ltMap_irr (a : S59) : ¬ ltMap a a := bl_irrefl _
theorem ltMap_tr (a b c : S59) (h1 : ltMap a b) (h2 : ltMap b c) : ltMap a c := bl_trans h1 h2
theorem extMap {l m : List S59} (hl : srtMap l) (hm : srtMap m) (h : ∀ x, x ∈ l ↔ x ∈ m) : l = m :=
  rise_ext ltMap ltMap_irr ltMap_tr ((srtMap_iff l).1 hl) ((srtMap_iff m).1 hm) h
def putMap (l : List S59) (x : S59) : List S59 := l.filter (fun y => decide (bl y.f0 < bl x.f0)) ++ [x] ++ l.filter (fun y => decide (bl x.f0 < bl y.f0))
def cutMap (l : List S59) (a : ByteArray) : List S59 := l.filter (fun y => decide (y.f0 ≠ a))
theorem mem_putMap (l : List S59) (x y : S59) : y ∈ putMap l x ↔ y = x ∨ (y ∈ l ∧ y.f0 ≠ x.f0) := by
  unfold putMap
  simp only [List.mem_append, List.mem_filter, List.mem_singleton, decide_eq_true_eq]
  constructor
  · rintro ((⟨h1, h2⟩ | h) | ⟨h1, h2⟩)
    · exact Or.inr ⟨h1, fun e => bl_irrefl _ (by rw [e] at h2; exact h2)⟩
    · exact Or.inl h
    · exact Or.inr ⟨h1, fun e => bl_irrefl _ (by rw [e] at h2; exact h2)⟩
  · rintro (h | ⟨h1, h2⟩)
    · exact Or.inl (Or.inr h)
    · rcases bl_tri (bl y.f0) (bl x.f0) with e | e | e
      · exact Or.inl (Or.inl ⟨h1, e⟩)
      · exact absurd (bl_inj e) h2
      · exact Or.inr ⟨h1, e⟩
theorem mem_cutMap (l : List S59) (a : ByteArray) (y : S59) : y ∈ cutMap l a ↔ y ∈ l ∧ y.f0 ≠ a := by
  unfold cutMap
  simp [List.mem_filter]
theorem putMap_srt {l : List S59} (h : srtMap l) (x : S59) : srtMap (putMap l x) := by
  rw [srtMap_iff] at h ⊢
  unfold putMap
  rw [List.pairwise_append, List.pairwise_append]
  refine ⟨⟨h.filter _, List.pairwise_singleton _ _, fun a ha b hb => ?_⟩, h.filter _, fun a ha b hb => ?_⟩
  · rw [List.mem_singleton] at hb
    subst hb
    show bl a.f0 < bl b.f0
    exact of_decide_eq_true (List.mem_filter.1 ha).2
  · have hb := (List.mem_filter.1 hb).2
    rw [decide_eq_true_eq] at hb
    rcases List.mem_append.1 ha with ha | ha
    · have ha := (List.mem_filter.1 ha).2
      rw [decide_eq_true_eq] at ha
      exact bl_trans ha hb
    · rw [List.mem_singleton] at ha
      subst ha
      exact hb
theorem cutMap_srt {l : List S59} (h : srtMap l) (a : ByteArray) : srtMap (cutMap l a) := by
  rw [srtMap_iff] at h ⊢
  exact h.filter _
theorem getI_Map (l : List S59) (i : Nat) (h : i < l.length) : l.getD i z59 = l[i] := by simp [List.getD_eq_getElem?_getD, List.getElem?_eq_getElem h]
theorem putMap_at {l : List S59} (h : srtMap l) (x : S59) (p : Nat) (hp : p < l.length) (he : (l.getD p z59).f0 = x.f0) : putMap l x = l.set p x := by
  have hlt : ∀ t (ht : t < l.length), t < p → bl l[t].f0 < bl x.f0 := fun t ht htp => by
    have := h t p htp hp
    rw [he, getI_Map l t ht] at this
    exact this
  have hgt : ∀ t (ht : t < l.length), p < t → bl x.f0 < bl l[t].f0 := fun t ht htp => by
    have := h p t htp ht
    rw [he, getI_Map l t ht] at this
    exact this
  have heq : bl l[p].f0 = bl x.f0 := by rw [← he, getI_Map l p hp]
  unfold putMap
  have hn1 : ∀ t (ht : t < l.length), p ≤ t → ¬ bl l[t].f0 < bl x.f0 := fun t ht htp hc => by
    by_cases e : t = p
    · subst e
      rw [heq] at hc
      exact bl_irrefl _ hc
    · exact bl_irrefl _ (bl_trans hc (hgt t ht (by omega)))
  have hn2 : ∀ t (ht : t < l.length), t < p + 1 → ¬ bl x.f0 < bl l[t].f0 := fun t ht htp hc => by
    by_cases e : t = p
    · subst e
      rw [heq] at hc
      exact bl_irrefl _ hc
    · exact bl_irrefl _ (bl_trans hc (hlt t ht (by omega)))
  rw [filter_take _ l p (fun t ht htp => decide_eq_true (hlt t ht htp)) (fun t ht htp => decide_eq_false (hn1 t ht htp)),
    filter_drop _ l (p + 1) (fun t ht htp => decide_eq_false (hn2 t ht htp)) (fun t ht htp => decide_eq_true (hgt t ht (by omega))), List.set_eq_take_append_cons_drop, if_pos hp, List.append_assoc, List.singleton_append]
theorem putMap_new {l : List S59} (x : S59) (c : Nat) (hc : c ≤ l.length) (h1 : ∀ t, t < c → bl (l.getD t z59).f0 < bl x.f0) (h2 : ∀ t, c ≤ t → t < l.length → bl x.f0 < bl (l.getD t z59).f0) : putMap l x = l.take c ++ [x] ++ l.drop c := by
  unfold putMap
  have hn1 : ∀ t (ht : t < l.length), c ≤ t → ¬ bl l[t].f0 < bl x.f0 := fun t ht htp hc => by
    rw [← getI_Map l t ht] at hc
    exact bl_irrefl _ (bl_trans hc (h2 t htp ht))
  have hn2 : ∀ t (ht : t < l.length), t < c → ¬ bl x.f0 < bl l[t].f0 := fun t ht htp hc => by
    rw [← getI_Map l t ht] at hc
    exact bl_irrefl _ (bl_trans hc (h1 t htp))
  rw [filter_take _ l c (fun t ht htp => decide_eq_true (by rw [← getI_Map l t ht]; exact h1 t htp)) (fun t ht htp => decide_eq_false (hn1 t ht htp)),
    filter_drop _ l c (fun t ht htp => decide_eq_false (hn2 t ht htp)) (fun t ht htp => decide_eq_true (by rw [← getI_Map l t ht]; exact h2 t htp ht))]
theorem cutMap_at {l : List S59} (h : srtMap l) (a : ByteArray) (p : Nat) (hp : p < l.length) (he : (l.getD p z59).f0 = a) : cutMap l a = l.eraseIdx p := by
  refine extMap (cutMap_srt h a) ?_ fun x => ?_
  · rw [srtMap_iff] at h ⊢
    exact h.sublist (List.eraseIdx_sublist _ _)
  · rw [mem_cutMap, List.mem_eraseIdx_iff_getElem]
    rw [getI_Map l p hp] at he
    constructor
    · rintro ⟨h1, h2⟩
      obtain ⟨i, hi, rfl⟩ := List.mem_iff_getElem.1 h1
      exact ⟨i, hi, fun e => h2 (by subst e; exact he), rfl⟩
    · rintro ⟨i, hi, hne, rfl⟩
      refine ⟨List.getElem_mem hi, fun e => ?_⟩
      have e2 : bl l[i].f0 = bl l[p].f0 := by rw [e, he]
      rcases Nat.lt_or_gt_of_ne hne with hlt | hlt
      · have := h i p hlt hp
        rw [getI_Map l p hp, getI_Map l i hi, e2] at this
        exact bl_irrefl _ this
      · have := h p i hlt hi
        rw [getI_Map l p hp, getI_Map l i hi, e2] at this
        exact bl_irrefl _ this
theorem cutMap_none {l : List S59} (a : ByteArray) (hn : ∀ p, p < l.length → (l.getD p z59).f0 ≠ a) : cutMap l a = l := by
  unfold cutMap
  refine List.filter_eq_self.2 fun x hx => ?_
  obtain ⟨i, hi, rfl⟩ := List.mem_iff_getElem.1 hx
  have := hn i hi
  rw [getI_Map l i hi] at this
  simpa using this
/-- The first place from i on with a's name; -1. -/
def posMap (l : List S59) (a : ByteArray) : Nat → Nat → Int
  | 0, _ => -1
  | d + 1, i => if (l.getD i z59).f0 = a then (i : Int) else posMap l a d (i + 1)
theorem posMap_cases (l : List S59) (a : ByteArray) (d : Nat) : ∀ i, (∃ p, i ≤ p ∧ p < i + d ∧ (l.getD p z59).f0 = a ∧ posMap l a d i = (p : Int)) ∨ ((∀ p, i ≤ p → p < i + d → (l.getD p z59).f0 ≠ a) ∧ posMap l a d i = -1) := by
  induction d with
  | zero => exact fun i => Or.inr ⟨fun p h1 h2 => by omega, rfl⟩
  | succ d ih =>
    intro i
    by_cases e : (l.getD i z59).f0 = a
    · exact Or.inl ⟨i, by omega, by omega, e, by rw [posMap, if_pos e]⟩
    · rcases ih (i + 1) with ⟨p, h1, h2, h3, h4⟩ | ⟨h1, h2⟩
      · exact Or.inl ⟨p, by omega, by omega, h3, by rw [posMap, if_neg e, h4]⟩
      · refine Or.inr ⟨fun p h3 h4 => ?_, by rw [posMap, if_neg e, h2]⟩
        by_cases ep : p = i
        · rw [ep]; exact e
        · exact h1 p (by omega) (by omega)
theorem rdI_Pair (l : List S59) (n : Nat) (h : n < l.length) : rd_T59 l (n : Int) = l[n] := by
  show l.getD n z59 = _
  simp [List.getD_eq_getElem?_getD, List.getElem?_eq_getElem h]
theorem rdI_Change (l : List S109) (n : Nat) (h : n < l.length) : rd_T109 l (n : Int) = l[n] := by
  show l.getD n z109 = _
  simp [List.getD_eq_getElem?_getD, List.getElem?_eq_getElem h]
theorem tl_eq {a b : ByteArray} : a.toList = b.toList ↔ a = b := ⟨fun h => by rw [bl_toList, bl_toList] at h; exact bl_inj h, fun h => by rw [h]⟩
/-! ### what differs between two maps -/
def goneC (p : S59) : S109 := ⟨p.f0, ⟨#[]⟩, true⟩
def newC (p : S59) : S109 := ⟨p.f0, p.f1, false⟩
def ltC (x y : S109) : Prop := bl x.f0 < bl y.f0
/-- The two maps run through side by side. -/
def mrg : List S59 → List S59 → List S109
  | [], b => b.map newC
  | p :: a, [] => (p :: a).map goneC
  | p :: a, q :: b =>
    if bl p.f0 < bl q.f0 then goneC p :: mrg a (q :: b)
    else if bl q.f0 < bl p.f0 then newC q :: mrg (p :: a) b
    else if p.f1 = q.f1 then mrg a b else newC q :: mrg a b
termination_by a b => a.length + b.length
theorem pair_eq {p q : S59} (h0 : p.f0 = q.f0) (h1 : p.f1 = q.f1) : p = q := by
  cases p; cases q; simp only at h0 h1; rw [h0, h1]
theorem mrg_mem (n : Nat) : ∀ (a b : List S59), a.length + b.length ≤ n → a.Pairwise ltMap → b.Pairwise ltMap → ∀ x, x ∈ mrg a b ↔ (∃ p, p ∈ a ∧ x = goneC p ∧ ∀ q, q ∈ b → q.f0 ≠ p.f0) ∨ (∃ q, q ∈ b ∧ x = newC q ∧ q ∉ a) := by
  induction n with
  | zero =>
    intro a b hn ha hb x
    have h1 : a = [] := List.eq_nil_of_length_eq_zero (by omega)
    have h2 : b = [] := List.eq_nil_of_length_eq_zero (by omega)
    subst h1 h2
    rw [mrg]
    simp
  | succ n ih =>
    intro a b hn ha hb x
    cases a with
    | nil =>
      rw [mrg, List.mem_map]
      constructor
      · rintro ⟨q, hq, rfl⟩
        exact Or.inr ⟨q, hq, rfl, by simp⟩
      · rintro (⟨p, hp, _⟩ | ⟨q, hq, rfl, _⟩)
        · cases hp
        · exact ⟨q, hq, rfl⟩
    | cons p a =>
      cases b with
      | nil =>
        rw [mrg, List.mem_map]
        constructor
        · rintro ⟨q, hq, rfl⟩
          exact Or.inl ⟨q, hq, rfl, fun q hq => by cases hq⟩
        · rintro (⟨p, hp, rfl, _⟩ | ⟨q, hq, _⟩)
          · exact ⟨p, hp, rfl⟩
          · cases hq
      | cons q b =>
        rw [List.pairwise_cons] at ha hb
        simp only [List.length_cons] at hn
        have ha' : (p :: a).Pairwise ltMap := List.pairwise_cons.2 ha
        have hb' : (q :: b).Pairwise ltMap := List.pairwise_cons.2 hb
        rw [mrg]
        by_cases h1 : bl p.f0 < bl q.f0
        · have hpq : ∀ q', q' ∈ q :: b → bl p.f0 < bl q'.f0 := fun q' hq' => by
            rcases List.mem_cons.1 hq' with rfl | hq'
            · exact h1
            · exact bl_trans h1 (hb.1 _ hq')
          have hne : ∀ q', q' ∈ q :: b → q'.f0 ≠ p.f0 := fun q' hq' e => bl_irrefl _ (by have := hpq q' hq'; rw [e] at this; exact this)
          rw [if_pos h1, List.mem_cons, ih a (q :: b) (by simp only [List.length_cons]; omega) ha.2 hb' x]
          constructor
          · rintro (rfl | ⟨p', hp', h⟩ | ⟨q', hq', rfl, h⟩)
            · exact Or.inl ⟨p, List.mem_cons_self, rfl, hne⟩
            · exact Or.inl ⟨p', List.mem_cons_of_mem _ hp', h⟩
            · refine Or.inr ⟨q', hq', rfl, fun hm => ?_⟩
              rcases List.mem_cons.1 hm with rfl | hm
              · exact hne _ hq' rfl
              · exact h hm
          · rintro (⟨p', hp', rfl, h⟩ | ⟨q', hq', rfl, h⟩)
            · rcases List.mem_cons.1 hp' with rfl | hp'
              · exact Or.inl rfl
              · exact Or.inr (Or.inl ⟨p', hp', rfl, h⟩)
            · exact Or.inr (Or.inr ⟨q', hq', rfl, fun hm => h (List.mem_cons_of_mem _ hm)⟩)
        · rw [if_neg h1]
          by_cases h2 : bl q.f0 < bl p.f0
          · have hqp : ∀ p', p' ∈ p :: a → bl q.f0 < bl p'.f0 := fun p' hp' => by
              rcases List.mem_cons.1 hp' with rfl | hp'
              · exact h2
              · exact bl_trans h2 (ha.1 _ hp')
            have hne : ∀ p', p' ∈ p :: a → q.f0 ≠ p'.f0 := fun p' hp' e => bl_irrefl _ (by have := hqp p' hp'; rw [e] at this; exact this)
            rw [if_pos h2, List.mem_cons, ih (p :: a) b (by simp only [List.length_cons]; omega) ha' hb.2 x]
            constructor
            · rintro (rfl | ⟨p', hp', rfl, h⟩ | ⟨q', hq', h⟩)
              · exact Or.inr ⟨q, List.mem_cons_self, rfl, fun hm => hne _ hm rfl⟩
              · refine Or.inl ⟨p', hp', rfl, fun q' hq' => ?_⟩
                rcases List.mem_cons.1 hq' with rfl | hq'
                · exact hne _ hp'
                · exact h _ hq'
              · exact Or.inr ⟨q', List.mem_cons_of_mem _ hq', h⟩
            · rintro (⟨p', hp', rfl, h⟩ | ⟨q', hq', rfl, h⟩)
              · exact Or.inr (Or.inl ⟨p', hp', rfl, fun q' hq' => h q' (List.mem_cons_of_mem _ hq')⟩)
              · rcases List.mem_cons.1 hq' with rfl | hq'
                · exact Or.inl rfl
                · exact Or.inr (Or.inr ⟨q', hq', rfl, h⟩)
          · have hk : p.f0 = q.f0 := by
              rcases bl_tri (bl p.f0) (bl q.f0) with e | e | e
              · exact absurd e h1
              · exact bl_inj e
              · exact absurd e h2
            have hna : ∀ p', p' ∈ a → p'.f0 ≠ q.f0 := fun p' hp' e => bl_irrefl (bl p.f0) (by have : bl p.f0 < bl p'.f0 := ha.1 _ hp'; rw [e, ← hk] at this; exact this)
            have hnb : ∀ q', q' ∈ b → q'.f0 ≠ p.f0 := fun q' hq' e => bl_irrefl (bl q.f0) (by have : bl q.f0 < bl q'.f0 := hb.1 _ hq'; rw [e, hk] at this; exact this)
            have hih := ih a b (by omega) ha.2 hb.2 x
            rw [if_neg h2]
            have key : (∃ p', p' ∈ p :: a ∧ x = goneC p' ∧ ∀ q', q' ∈ q :: b → q'.f0 ≠ p'.f0) ∨ (∃ q', q' ∈ q :: b ∧ x = newC q' ∧ q' ∉ p :: a) ↔ (x = newC q ∧ p.f1 ≠ q.f1) ∨ x ∈ mrg a b := by
              rw [hih]
              constructor
              · rintro (⟨p', hp', rfl, h⟩ | ⟨q', hq', rfl, h⟩)
                · rcases List.mem_cons.1 hp' with rfl | hp'
                  · exact absurd hk.symm (h q List.mem_cons_self)
                  · exact Or.inr (Or.inl ⟨p', hp', rfl, fun q' hq' => h q' (List.mem_cons_of_mem _ hq')⟩)
                · rcases List.mem_cons.1 hq' with rfl | hq'
                  · exact Or.inl ⟨rfl, fun e => h (by rw [pair_eq hk e]; exact List.mem_cons_self)⟩
                  · exact Or.inr (Or.inr ⟨q', hq', rfl, fun hm => h (List.mem_cons_of_mem _ hm)⟩)
              · rintro (⟨rfl, hv⟩ | ⟨p', hp', rfl, h⟩ | ⟨q', hq', rfl, h⟩)
                · refine Or.inr ⟨q, List.mem_cons_self, rfl, fun hm => ?_⟩
                  rcases List.mem_cons.1 hm with e | hm
                  · exact hv (by rw [e])
                  · exact hna _ hm rfl
                · refine Or.inl ⟨p', List.mem_cons_of_mem _ hp', rfl, fun q' hq' => ?_⟩
                  rcases List.mem_cons.1 hq' with rfl | hq'
                  · exact fun e => hna _ hp' e.symm
                  · exact h _ hq'
                · refine Or.inr ⟨q', List.mem_cons_of_mem _ hq', rfl, fun hm => ?_⟩
                  rcases List.mem_cons.1 hm with e | hm
                  · exact hnb _ hq' (by rw [e])
                  · exact h hm
            rw [key]
            by_cases hv : p.f1 = q.f1
            · rw [if_pos hv]
              constructor
              · exact Or.inr
              · rintro (⟨_, h⟩ | h)
                · exact absurd hv h
                · exact h
            · rw [if_neg hv, List.mem_cons]
              constructor
              · rintro (h | h)
                · exact Or.inl ⟨h, hv⟩
                · exact Or.inr h
              · rintro (⟨h, _⟩ | h)
                · exact Or.inl h
                · exact Or.inr h
theorem mrg_key {a b : List S59} (ha : a.Pairwise ltMap) (hb : b.Pairwise ltMap) {x : S109} (h : x ∈ mrg a b) : (∃ p, p ∈ a ∧ x.f0 = p.f0) ∨ (∃ q, q ∈ b ∧ x.f0 = q.f0) := by
  rcases (mrg_mem _ a b (Nat.le_refl _) ha hb x).1 h with ⟨p, hp, rfl, _⟩ | ⟨q, hq, rfl, _⟩
  · exact Or.inl ⟨p, hp, rfl⟩
  · exact Or.inr ⟨q, hq, rfl⟩
theorem mrg_srt (n : Nat) : ∀ (a b : List S59), a.length + b.length ≤ n → a.Pairwise ltMap → b.Pairwise ltMap → (mrg a b).Pairwise ltC := by
  induction n with
  | zero =>
    intro a b hn ha hb
    have h1 : a = [] := List.eq_nil_of_length_eq_zero (by omega)
    have h2 : b = [] := List.eq_nil_of_length_eq_zero (by omega)
    subst h1 h2
    rw [mrg]
    exact List.Pairwise.nil
  | succ n ih =>
    intro a b hn ha hb
    cases a with
    | nil =>
      rw [mrg, List.pairwise_map]
      exact hb
    | cons p a =>
      cases b with
      | nil =>
        rw [mrg, List.pairwise_map]
        exact ha
      | cons q b =>
        have ha' := ha
        have hb' := hb
        rw [List.pairwise_cons] at ha hb
        simp only [List.length_cons] at hn
        have low : ∀ (k : List UInt8) (a b : List S59), a.Pairwise ltMap → b.Pairwise ltMap → (∀ p, p ∈ a → k < bl p.f0) → (∀ q, q ∈ b → k < bl q.f0) → ∀ x, x ∈ mrg a b → k < bl x.f0 := fun k a b ha hb h1 h2 x hx => by
          rcases mrg_key ha hb hx with ⟨p, hp, e⟩ | ⟨q, hq, e⟩
          · rw [e]; exact h1 p hp
          · rw [e]; exact h2 q hq
        rw [mrg]
        by_cases h1 : bl p.f0 < bl q.f0
        · rw [if_pos h1, List.pairwise_cons]
          refine ⟨low _ _ _ ha.2 hb' (fun p' hp' => ha.1 _ hp') (fun q' hq' => ?_), ih _ _ (by simp only [List.length_cons]; omega) ha.2 hb'⟩
          rcases List.mem_cons.1 hq' with rfl | hq'
          · exact h1
          · exact bl_trans h1 (hb.1 _ hq')
        · rw [if_neg h1]
          by_cases h2 : bl q.f0 < bl p.f0
          · rw [if_pos h2, List.pairwise_cons]
            refine ⟨low _ _ _ ha' hb.2 (fun p' hp' => ?_) (fun q' hq' => hb.1 _ hq'), ih _ _ (by simp only [List.length_cons]; omega) ha' hb.2⟩
            rcases List.mem_cons.1 hp' with rfl | hp'
            · exact h2
            · exact bl_trans h2 (ha.1 _ hp')
          · rw [if_neg h2]
            have hk : bl p.f0 = bl q.f0 := by
              rcases bl_tri (bl p.f0) (bl q.f0) with e | e | e
              · exact absurd e h1
              · exact e
              · exact absurd e h2
            have hr := ih a b (by omega) ha.2 hb.2
            by_cases hv : p.f1 = q.f1
            · rw [if_pos hv]; exact hr
            · rw [if_neg hv, List.pairwise_cons]
              exact ⟨low _ _ _ ha.2 hb.2 (fun p' hp' => by have : bl p.f0 < bl p'.f0 := ha.1 _ hp'; rw [hk] at this; exact this) (fun q' hq' => hb.1 _ hq'), hr⟩
/-- What the program lists, before it is put in order. -/
def goneL (b : List S59) (a : List S59) : List S109 := (a.filter fun p => !b.any fun q => decide (q.f0 = p.f0)).map goneC
def newL (a : List S59) (b : List S59) : List S109 := (b.filter fun q => !a.any fun p => decide (p.f0 = q.f0) && decide (p.f1 = q.f1)).map newC
theorem mem_goneL (a b : List S59) (x : S109) : x ∈ goneL b a ↔ ∃ p, p ∈ a ∧ x = goneC p ∧ ∀ q, q ∈ b → q.f0 ≠ p.f0 := by
  unfold goneL
  rw [List.mem_map]
  constructor
  · rintro ⟨p, hp, rfl⟩
    obtain ⟨h1, h2⟩ := List.mem_filter.1 hp
    refine ⟨p, h1, rfl, fun q hq e => ?_⟩
    rw [Bool.not_eq_true', List.any_eq_false] at h2
    exact h2 q hq (decide_eq_true e)
  · rintro ⟨p, hp, rfl, h⟩
    refine ⟨p, List.mem_filter.2 ⟨hp, ?_⟩, rfl⟩
    rw [Bool.not_eq_true', List.any_eq_false]
    exact fun q hq e => h q hq (of_decide_eq_true e)
theorem mem_newL (a b : List S59) (x : S109) : x ∈ newL a b ↔ ∃ q, q ∈ b ∧ x = newC q ∧ q ∉ a := by
  unfold newL
  rw [List.mem_map]
  constructor
  · rintro ⟨q, hq, rfl⟩
    obtain ⟨h1, h2⟩ := List.mem_filter.1 hq
    refine ⟨q, h1, rfl, fun hm => ?_⟩
    rw [Bool.not_eq_true', List.any_eq_false] at h2
    exact h2 q hm (by simp)
  · rintro ⟨q, hq, rfl, h⟩
    refine ⟨q, List.mem_filter.2 ⟨hq, ?_⟩, rfl⟩
    rw [Bool.not_eq_true', List.any_eq_false]
    intro p hp e
    simp only [Bool.and_eq_true, decide_eq_true_eq] at e
    exact h (by rw [← pair_eq e.1 e.2]; exact hp)
def chg (a b : List S59) : List S109 := goneL b a ++ newL a b
theorem chg_len (a b : List S59) : (chg a b).length ≤ a.length + b.length := by
  unfold chg goneL newL
  rw [List.length_append, List.length_map, List.length_map]
  have h1 := List.length_filter_le (fun p : S59 => !b.any fun q => decide (q.f0 = p.f0)) a
  have h2 := List.length_filter_le (fun q : S59 => !a.any fun p => decide (p.f0 = q.f0) && decide (p.f1 = q.f1)) b
  omega
theorem ltMap_ne {p q : S59} (h : ltMap p q) : p.f0 ≠ q.f0 := fun e => bl_irrefl (bl q.f0) (by have : bl p.f0 < bl q.f0 := h; rw [e] at this; exact this)
theorem chg_ne {a b : List S59} (ha : a.Pairwise ltMap) (hb : b.Pairwise ltMap) : (chg a b).Pairwise (fun x y => x.f0 ≠ y.f0) := by
  unfold chg
  rw [List.pairwise_append]
  refine ⟨?_, ?_, fun x hx y hy => ?_⟩
  · unfold goneL
    rw [List.pairwise_map]
    exact (ha.filter _).imp ltMap_ne
  · unfold newL
    rw [List.pairwise_map]
    exact (hb.filter _).imp ltMap_ne
  · obtain ⟨p, hp, rfl, h⟩ := (mem_goneL a b x).1 hx
    obtain ⟨q, hq, rfl, _⟩ := (mem_newL a b y).1 hy
    exact fun e => h q hq e.symm
theorem pw_inj {l : List S109} (h : l.Pairwise (fun x y => x.f0 ≠ y.f0)) : ∀ x, x ∈ l → ∀ y, y ∈ l → x.f0 = y.f0 → x = y := by
  induction l with
  | nil => intro x hx; cases hx
  | cons a l ih =>
    rw [List.pairwise_cons] at h
    intro x hx y hy e
    rcases List.mem_cons.1 hx with e1 | hx2
    · rcases List.mem_cons.1 hy with e2 | hy2
      · rw [e1, e2]
      · rw [e1] at e
        exact absurd e (h.1 _ hy2)
    · rcases List.mem_cons.1 hy with e2 | hy2
      · rw [e2] at e
        exact absurd e.symm (h.1 _ hx2)
      · exact ih h.2 x hx2 y hy2 e
theorem chg_sorted {a b : List S59} (ha : a.Pairwise ltMap) (hb : b.Pairwise ltMap) : ((chg a b).mergeSort fun x y => !decide (impl_Change.cf y x < 0)) = mrg a b := by
  have hlt : ∀ x y : S109, decide (impl_Change.cf x y < 0) = decide (bl x.f0 < bl y.f0) := fun x y => by
    rw [decide_eq_decide]
    exact cmpB_lt _ _
  have e : (fun x y : S109 => !decide (impl_Change.cf y x < 0)) = fun x y => !decide (bl y.f0 < bl x.f0) := by
    funext x y
    rw [hlt]
  rw [e]
  have hp := List.mergeSort_perm (chg a b) (fun x y => !decide (bl y.f0 < bl x.f0))
  have h1 := List.pairwise_mergeSort (le := fun x y : S109 => !decide (bl y.f0 < bl x.f0)) (fun x y z h1 h2 => by
    rw [Bool.not_eq_true', decide_eq_false_iff_not] at *
    exact List.not_lt.2 (List.le_trans (List.not_lt.1 h1) (List.not_lt.1 h2))) (fun x y => by
    by_cases h : bl y.f0 < bl x.f0
    · have : ¬ bl x.f0 < bl y.f0 := fun h2 => bl_irrefl _ (bl_trans h h2)
      rw [decide_eq_false this]
      simp
    · rw [decide_eq_false h]
      simp) (chg a b)
  have h2 : ((chg a b).mergeSort fun x y => !decide (bl y.f0 < bl x.f0)).Pairwise (fun x y => x.f0 ≠ y.f0) := (hp.pairwise_iff (fun {x y} h e => h e.symm)).2 (chg_ne ha hb)
  have h3 : ((chg a b).mergeSort fun x y => !decide (bl y.f0 < bl x.f0)).Pairwise ltC := (h1.and h2).imp fun {x y} h => by
    have h4 := h.1
    rw [Bool.not_eq_true', decide_eq_false_iff_not] at h4
    rcases bl_tri (bl x.f0) (bl y.f0) with e | e | e
    · exact e
    · exact absurd (bl_inj e) h.2
    · exact absurd e h4
  refine rise_ext ltC (fun x => bl_irrefl _) (fun x y z => bl_trans) h3 (mrg_srt _ a b (Nat.le_refl _) ha hb) fun x => ?_
  rw [hp.mem_iff, mrg_mem _ a b (Nat.le_refl _) ha hb x]
  unfold chg
  rw [List.mem_append, mem_goneL, mem_newL]
theorem mrg_len {a b : List S59} (ha : a.Pairwise ltMap) (hb : b.Pairwise ltMap) : (mrg a b).length = (chg a b).length := by
  rw [← chg_sorted ha hb, List.length_mergeSort]
theorem chg_uniq {a b : List S59} (ha : a.Pairwise ltMap) (hb : b.Pairwise ltMap) (hl : a.length + b.length ≤ 1048576) : impl_Change.uniq (chg a b) = true := by
  unfold impl_Change.uniq
  have h0 := chg_len a b
  have h := pw_inj (chg_ne ha hb)
  simp only [Bool.and_eq_true, decide_eq_true_eq, List.all_eq_true, Bool.or_eq_true]
  refine ⟨by omega, fun x hx y hy => ?_⟩
  by_cases e : x.f0 = y.f0
  · have := h x hx y hy e
    subst this
    exact Or.inr ⟨rfl, rfl⟩
  · exact Or.inl e
/-- What MapBetween answers. -/
def mapBetOf (a b : List S59) : List S109 × Bool := if mapCOf a = true ∧ mapCOf b = true ∧ (mrg a b).length ≤ 60 then (mrg a b, true) else ([], false)
theorem mapBetOf_len (a b : List S59) : (mapBetOf a b).1.length ≤ 60 := by
  unfold mapBetOf
  split
  · rename_i h; exact h.2.2
  · simp
theorem putMap_len (l : List S59) (x : S59) : (putMap l x).length ≤ l.length + 1 := by
  unfold putMap
  rw [List.length_append, List.length_append]
  have := filter_two (fun y : S59 => decide (bl y.f0 < bl x.f0)) (fun y : S59 => decide (bl x.f0 < bl y.f0)) (fun y h1 h2 => bl_irrefl _ (bl_trans (of_decide_eq_true h1) (of_decide_eq_true h2))) l
  simp only [List.length_cons, List.length_nil]
  omega
theorem cutMap_len (l : List S59) (a : ByteArray) : (cutMap l a).length ≤ l.length := List.length_filter_le _ _
def chC (l : List S109) (i : Nat) : Bool :=
  decide (1 ≤ ((l.getD i z109).f0.size : Int) ∧ ((l.getD i z109).f0.size : Int) ≤ 10) && decide (¬ ((l.getD i z109).f1.size : Int) > 40) &&
    (!(l.getD i z109).f2 || decide ((l.getD i z109).f1.toList = [])) && (decide (i = 0) || Op.bytesLess (l.getD (i - 1) z109).f0.toList (l.getD i z109).f0.toList)
def batchOf (a : Int) (l : List S109) : Bool := decide (0 ≤ a ∧ a ≤ 100000) && decide (¬ (l.length : Int) > 60) && allF (chC l) l.length 0
def doOne (m : List S59) (c : S109) : List S59 := if c.f2 = true then cutMap m c.f0 else putMap m ⟨c.f0, c.f1⟩
def doAll (m : List S59) (cs : List S109) : List S59 := cs.foldl doOne m
theorem doOne_srt {m : List S59} (h : srtMap m) (c : S109) : srtMap (doOne m c) := by
  unfold doOne
  split
  · exact cutMap_srt h _
  · exact putMap_srt h _
theorem doOne_len (m : List S59) (c : S109) : (doOne m c).length ≤ m.length + 1 := by
  unfold doOne
  have h1 := cutMap_len m c.f0
  split
  · omega
  · exact putMap_len _ _
theorem doAll_srt (cs : List S109) : ∀ {m : List S59}, srtMap m → srtMap (doAll m cs) := by
  induction cs with
  | nil => exact fun h => h
  | cons c cs ih => exact fun h => ih (doOne_srt h c)
theorem doAll_len (cs : List S109) : ∀ (m : List S59), (doAll m cs).length ≤ m.length + cs.length := by
  induction cs with
  | nil => exact fun m => Nat.le_refl _
  | cons c cs ih =>
    intro m
    have h1 := ih (doOne m c)
    have h2 := doOne_len m c
    show (doAll (doOne m c) cs).length ≤ _
    simp only [List.length_cons]
    omega
def mapEnd (m : List S59) : List S59 × Bool := if mapCOf m = true then (m, true) else ([], false)
/-- What MapDo answers. -/
def mapDoOf (m : List S59) (v : Int) (cs : List S109) : List S59 × Bool := if mapCOf m = true ∧ batchOf v cs = true then mapEnd (doAll m cs) else ([], false)
theorem mapEnd_len (m : List S59) : (mapEnd m).1.length ≤ 60 := by
  unfold mapEnd
  by_cases h : mapCOf m = true
  · rw [if_pos h]
    have := (mapC_srt h).2.1
    show m.length ≤ 60
    omega
  · rw [if_neg h]; simp
theorem mapDoOf_len (m : List S59) (v : Int) (cs : List S109) : (mapDoOf m v cs).1.length ≤ 60 := by
  unfold mapDoOf
  split
  · exact mapEnd_len _
  · simp
theorem batchOf_len {v : Int} {cs : List S109} (h : batchOf v cs = true) : cs.length ≤ 60 := by
  unfold batchOf at h
  simp only [Bool.and_eq_true, decide_eq_true_eq] at h
  omega
def chOf (x : S59) : S109 := ⟨x.f0, x.f1, false⟩
theorem bytesLess_trans : True := trivial
theorem mapC_ch (l : List S59) (i : Nat) (hi : i < l.length) : chC (l.map chOf) i = mapC l i := by
  have e : ∀ j, j < l.length → (l.map chOf).getD j z109 = chOf (l.getD j z59) := fun j hj => by
    simp [List.getD_eq_getElem?_getD, List.getElem?_eq_getElem hj]
  unfold chC mapC
  rw [e i hi, e (i - 1) (by omega)]
  generalize l.getD i z59 = x
  generalize l.getD (i - 1) z59 = y
  unfold chOf
  by_cases h1 : 1 ≤ (x.f0.size : Int) ∧ (x.f0.size : Int) ≤ 10 <;> by_cases hv : (x.f1.size : Int) ≤ 40 <;> simp [h1, hv] <;> omega
theorem batchOf_map (l : List S59) (v : Int) : batchOf v (l.map chOf) = (decide (0 ≤ v ∧ v ≤ 100000) && mapCOf l) := by
  unfold batchOf mapCOf
  rw [List.length_map, allF_congr _ _ (fun j h1 h2 => mapC_ch l j (by omega)), Bool.and_assoc]
  congr 2
  rw [decide_eq_decide]
  omega
def mapBatchOf (l : List S59) (v : Int) : Int × List S109 × Bool := if mapCOf l = true ∧ 0 ≤ v ∧ v ≤ 100000 then (v, l.map chOf, true) else (0, [], false)
theorem mapC_of {l : List S59} (h : srtMap l) (hl : l.length ≤ 60) (hx : ∀ x ∈ l, 1 ≤ x.f0.size ∧ x.f0.size ≤ 10 ∧ x.f1.size ≤ 40) : mapCOf l = true := by
  unfold mapCOf
  rw [decide_eq_true (show (l.length : Int) ≤ 60 by omega), Bool.true_and, allF_true]
  intro j h1 h2
  have hj : j < l.length := by omega
  have hm : l.getD j z59 ∈ l := by
    have : l.getD j z59 = l[j] := by simp [List.getD_eq_getElem?_getD, List.getElem?_eq_getElem hj]
    rw [this]
    exact List.getElem_mem hj
  have hs := hx _ hm
  unfold mapC
  rw [decide_eq_true (show 1 ≤ ((l.getD j z59).f0.size : Int) ∧ ((l.getD j z59).f0.size : Int) ≤ 10 by omega), decide_eq_true (show ((l.getD j z59).f1.size : Int) ≤ 40 by omega), Bool.true_and, Bool.true_and, Bool.or_eq_true, decide_eq_true_eq]
  by_cases e : j = 0
  · exact Or.inl e
  · right
    rw [bless, bl_toList, bl_toList]
    exact decide_eq_true (h (j - 1) j (by omega) hj)
/-- A small map in good order, of n pairs at the most. -/
def rightM (n : Nat) (m : List S59) : Prop := srtMap m ∧ m.length ≤ n ∧ ∀ x ∈ m, 1 ≤ x.f0.size ∧ x.f0.size ≤ 10 ∧ x.f1.size ≤ 40
theorem rightM_ok {n : Nat} {m : List S59} (h : rightM n m) (hn : n ≤ 60) : mapCOf m = true := mapC_of h.1 (by have := h.2.1; omega) h.2.2
theorem rightM_cut {n : Nat} {m : List S59} (h : rightM n m) (a : ByteArray) : rightM n (cutMap m a) :=
  ⟨cutMap_srt h.1 a, Nat.le_trans (cutMap_len m a) h.2.1, fun x hx => h.2.2 x ((mem_cutMap m a x).1 hx).1⟩
theorem rightM_put {n : Nat} {m : List S59} (h : rightM n m) (x : S59) (hx : 1 ≤ x.f0.size ∧ x.f0.size ≤ 10 ∧ x.f1.size ≤ 40) : rightM (n + 1) (putMap m x) := by
  refine ⟨putMap_srt h.1 x, ?_, fun y hy => ?_⟩
  · have := putMap_len m x
    have := h.2.1
    omega
  · rcases (mem_putMap m x y).1 hy with rfl | ⟨h1, _⟩
    · exact hx
    · exact h.2.2 y h1
theorem doOne_mem (m : List S59) (c : S109) (x : S59) : x ∈ doOne m c ↔ (c.f2 = false ∧ x = ⟨c.f0, c.f1⟩) ∨ (x ∈ m ∧ x.f0 ≠ c.f0) := by
  unfold doOne
  by_cases h : c.f2 = true
  · rw [if_pos h, mem_cutMap]
    constructor
    · exact Or.inr
    · rintro (⟨h2, _⟩ | h2)
      · rw [h] at h2; cases h2
      · exact h2
  · rw [if_neg h, mem_putMap]
    constructor
    · rintro (h2 | h2)
      · exact Or.inl ⟨Bool.eq_false_iff.2 h, h2⟩
      · exact Or.inr h2
    · rintro (⟨_, h2⟩ | h2)
      · exact Or.inl h2
      · exact Or.inr h2
theorem doAll_mem (cs : List S109) : cs.Pairwise (fun x y => x.f0 ≠ y.f0) → ∀ (m : List S59) (x : S59), x ∈ doAll m cs ↔ (∃ c, c ∈ cs ∧ c.f2 = false ∧ x = ⟨c.f0, c.f1⟩) ∨ (x ∈ m ∧ ∀ c, c ∈ cs → x.f0 ≠ c.f0) := by
  induction cs with
  | nil =>
    intro _ m x
    show x ∈ m ↔ _
    simp
  | cons c cs ih =>
    intro hp m x
    rw [List.pairwise_cons] at hp
    show x ∈ doAll (doOne m c) cs ↔ _
    rw [ih hp.2, doOne_mem]
    constructor
    · rintro (⟨c', h1, h2, h3⟩ | ⟨⟨h1, h2⟩ | ⟨h1, h2⟩, h3⟩)
      · exact Or.inl ⟨c', List.mem_cons_of_mem _ h1, h2, h3⟩
      · exact Or.inl ⟨c, List.mem_cons_self, h1, h2⟩
      · refine Or.inr ⟨h1, fun c' hc' => ?_⟩
        rcases List.mem_cons.1 hc' with rfl | hc'
        · exact h2
        · exact h3 c' hc'
    · rintro (⟨c', h1, h2, h3⟩ | ⟨h1, h2⟩)
      · rcases List.mem_cons.1 h1 with rfl | h1
        · refine Or.inr ⟨Or.inl ⟨h2, h3⟩, fun c2 hc2 => ?_⟩
          rw [h3]
          exact hp.1 c2 hc2
        · exact Or.inl ⟨c', h1, h2, h3⟩
      · exact Or.inr ⟨Or.inr ⟨h1, h2 c List.mem_cons_self⟩, fun c' hc' => h2 c' (List.mem_cons_of_mem _ hc')⟩
theorem srt_inj {l : List S59} (h : l.Pairwise ltMap) : ∀ x, x ∈ l → ∀ y, y ∈ l → x.f0 = y.f0 → x = y := by
  induction l with
  | nil => intro x hx; cases hx
  | cons a l ih =>
    rw [List.pairwise_cons] at h
    intro x hx y hy e
    rcases List.mem_cons.1 hx with e1 | hx2
    · rcases List.mem_cons.1 hy with e2 | hy2
      · rw [e1, e2]
      · rw [e1] at e
        exact absurd e (ltMap_ne (h.1 _ hy2))
    · rcases List.mem_cons.1 hy with e2 | hy2
      · rw [e2] at e
        exact absurd e.symm (ltMap_ne (h.1 _ hx2))
      · exact ih h.2 x hx2 y hy2 e
theorem ltC_ne {x y : S109} (h : ltC x y) : x.f0 ≠ y.f0 := fun e => bl_irrefl (bl y.f0) (by have h2 : bl x.f0 < bl y.f0 := h; rw [e] at h2; exact h2)
theorem doAll_mrg {a b : List S59} (ha : srtMap a) (hb : srtMap b) : doAll a (mrg a b) = b := by
  have pa := (srtMap_iff a).1 ha
  have pb := (srtMap_iff b).1 hb
  refine extMap (doAll_srt _ ha) hb fun x => ?_
  rw [doAll_mem _ ((mrg_srt _ a b (Nat.le_refl _) pa pb).imp ltC_ne) a x]
  constructor
  · rintro (⟨c, h1, h2, rfl⟩ | ⟨h1, h2⟩)
    · rcases (mrg_mem _ a b (Nat.le_refl _) pa pb c).1 h1 with ⟨p, _, rfl, _⟩ | ⟨q, hq, rfl, _⟩
      · cases h2
      · exact hq
    · by_cases hx : ∃ q, q ∈ b ∧ q.f0 = x.f0
      · obtain ⟨q, hq, e⟩ := hx
        by_cases hqa : q ∈ a
        · rw [srt_inj pa x h1 q hqa e.symm]
          exact hq
        · exact absurd e.symm (h2 (newC q) ((mrg_mem _ a b (Nat.le_refl _) pa pb _).2 (Or.inr ⟨q, hq, rfl, hqa⟩)))
      · exact absurd rfl (h2 (goneC x) ((mrg_mem _ a b (Nat.le_refl _) pa pb _).2 (Or.inl ⟨x, h1, rfl, fun q hq e => hx ⟨q, hq, e⟩⟩)))
  · intro hx
    by_cases hxa : x ∈ a
    · refine Or.inr ⟨hxa, fun c hc => ?_⟩
      rcases (mrg_mem _ a b (Nat.le_refl _) pa pb c).1 hc with ⟨p, _, rfl, h⟩ | ⟨q, hq, rfl, h⟩
      · exact h x hx
      · intro e
        have : x = q := srt_inj pb x hx q hq e
        rw [this] at hxa
        exact h hxa
    · exact Or.inl ⟨newC x, (mrg_mem _ a b (Nat.le_refl _) pa pb _).2 (Or.inr ⟨x, hx, rfl, hxa⟩), rfl, rfl⟩
theorem mrg_self {a : List S59} (ha : srtMap a) : mrg a a = [] := by
  have pa := (srtMap_iff a).1 ha
  refine List.eq_nil_iff_forall_not_mem.2 fun x hx => ?_
  rcases (mrg_mem _ a a (Nat.le_refl _) pa pa x).1 hx with ⟨p, hp, _, h⟩ | ⟨q, hq, _, h⟩
  · exact h p hp rfl
  · exact h hq
theorem doAll_all {b : List S59} (hb : srtMap b) : doAll [] (b.map chOf) = b := by
  have pb := (srtMap_iff b).1 hb
  have h0 : srtMap ([] : List S59) := fun i j hij hj => by simp at hj
  refine extMap (doAll_srt _ h0) hb fun x => ?_
  rw [doAll_mem _ (by rw [List.pairwise_map]; exact pb.imp ltMap_ne) [] x]
  constructor
  · rintro (⟨c, h1, h2, rfl⟩ | ⟨h1, _⟩)
    · obtain ⟨q, hq, rfl⟩ := List.mem_map.1 h1
      exact hq
    · cases h1
  · intro hx
    exact Or.inl ⟨chOf x, List.mem_map.2 ⟨x, hx, rfl⟩, rfl, rfl⟩
theorem batch_mrg {a b : List S59} (ha : rightM 5 a) (hb : rightM 5 b) : batchOf 1 (mrg a b) = true ∧ (mrg a b).length ≤ a.length + b.length := by
  have pa := (srtMap_iff a).1 ha.1
  have pb := (srtMap_iff b).1 hb.1
  have hlen : (mrg a b).length ≤ a.length + b.length := by
    rw [mrg_len pa pb]
    exact chg_len a b
  have hsrt := mrg_srt _ a b (Nat.le_refl _) pa pb
  have hg : ∀ i (h : i < (mrg a b).length), (mrg a b).getD i z109 = (mrg a b)[i] := fun i h => by simp [List.getD_eq_getElem?_getD, List.getElem?_eq_getElem h]
  refine ⟨?_, hlen⟩
  have l1 := ha.2.1
  have l2 := hb.2.1
  unfold batchOf
  rw [decide_eq_true (show (0 : Int) ≤ 1 ∧ (1 : Int) ≤ 100000 by omega), decide_eq_true (show ¬ ((mrg a b).length : Int) > 60 by omega), Bool.true_and, Bool.true_and, allF_true]
  intro j h1 h2
  have hj : j < (mrg a b).length := by omega
  unfold chC
  rw [hg j hj]
  have hm := (mrg_mem _ a b (Nat.le_refl _) pa pb _).1 (List.getElem_mem hj)
  have hs : (1 ≤ ((mrg a b)[j].f0.size : Int) ∧ ((mrg a b)[j].f0.size : Int) ≤ 10) ∧ ¬ ((mrg a b)[j].f1.size : Int) > 40 ∧ ((mrg a b)[j].f2 = true → (mrg a b)[j].f1.toList = []) := by
    rcases hm with ⟨p, hp, e, _⟩ | ⟨q, hq, e, _⟩
    · have := ha.2.2 p hp
      rw [e]
      exact ⟨⟨by show (1 : Int) ≤ (p.f0.size : Int); omega, by show (p.f0.size : Int) ≤ 10; omega⟩, by show ¬ (((⟨#[]⟩ : ByteArray).size : Nat) : Int) > 40; decide, fun _ => by rw [ByteArray.toList_eq]; rfl⟩
    · have := hb.2.2 q hq
      rw [e]
      exact ⟨⟨by show (1 : Int) ≤ (q.f0.size : Int); omega, by show (q.f0.size : Int) ≤ 10; omega⟩, by show ¬ (q.f1.size : Int) > 40; omega, fun h => by cases h⟩
  rw [decide_eq_true hs.1, decide_eq_true hs.2.1, Bool.true_and, Bool.true_and, Bool.and_eq_true]
  constructor
  · by_cases hf : (mrg a b)[j].f2 = true
    · rw [hf, decide_eq_true (hs.2.2 hf)]; rfl
    · rw [Bool.eq_false_iff.2 hf]; rfl
  · rw [Bool.or_eq_true, decide_eq_true_eq]
    by_cases e : j = 0
    · exact Or.inl e
    · right
      rw [hg (j - 1) (by omega), bless, bl_toList, bl_toList]
      have := List.pairwise_iff_getElem.1 hsrt (j - 1) j (by omega) hj (by omega)
      exact decide_eq_true this
theorem spec_l01New.ev0 (l : List Int) (hs : l.length ≤ 1048576) (d : Nat) : ∀ (i : Nat) (h : Int), i + d = l.length → ∃ h', Ev (fun k => spec_l01New.l0 k l h (i : Int)) (l, 0, h') := by
  induction d with
  | zero =>
    intro i h hi
    refine ⟨h, 1, fun k hk => ?_⟩
    obtain ⟨k, rfl⟩ : ∃ m, k = m + 1 := ⟨k - 1, by omega⟩
    show spec_l01New.l0 (k + 1) _ _ _ = _
    rw [spec_l01New.l0, if_neg (by omega)]
  | succ d ih =>
    intro i h hi
    by_cases hc : i < 4000
    · have e3 : Hd (wrap64 ((i : Int) + 1) = ((i + 1 : Nat) : Int)) := Hd.mk <| by rw [w64 (by omega) (by omega)]; rfl
      obtain ⟨h', hh⟩ := ih (i + 1) (Go.bits .and .i64 (wrap64 ((wrap64 ((wrap64 (h * 131)) + (wrap64 (rd l (i : Int))))) + 7)) 1073741823) (by omega)
      refine ⟨h', Ev.step (fun k => ?_) hh⟩
      show spec_l01New.l0 (k + 1) _ _ _ = _
      rw [spec_l01New.l0, if_pos (by omega), if_pos (by omega), if_pos (by omega), e3.out]
    · refine ⟨h, 1, fun k hk => ?_⟩
      obtain ⟨k, rfl⟩ : ∃ m, k = m + 1 := ⟨k - 1, by omega⟩
      show spec_l01New.l0 (k + 1) _ _ _ = _
      rw [spec_l01New.l0, if_pos (by omega), if_neg (by omega)]
theorem spec_l01New.ev (l : List Int) (hs : l.length ≤ 1048576) : ∃ h, Ev (fun k => spec_l01New.f k l) (l, 0, h) := by
  obtain ⟨h, hh⟩ := spec_l01New.ev0 l hs l.length 0 (wrap64 (10301 + (l.length : Int))) (by omega)
  exact ⟨h, hh⟩
theorem i64_and255 (n : Int) : Go.bits .and .i64 n 255 = n % 256 := by
  have h255 : (BitVec.ofInt 64 255).toNat = 2 ^ 8 - 1 := by decide
  have key : (BitVec.ofInt 64 n &&& BitVec.ofInt 64 255).toNat = (n % ((2 ^ 64 : Nat) : Int)).toNat % 2 ^ 8 := by
    rw [BitVec.toNat_and, BitVec.toNat_ofInt, h255, Nat.and_two_pow_sub_one_eq_mod]
  show IntKind.i64.wrap ((BitVec.ofInt 64 n &&& BitVec.ofInt 64 255).toNat : Nat) = n % 256
  rw [key, IntKind.wrap_i64]
  omega
theorem spec_l01Byte.is (b : List Int) (hs : b.length ≤ 1048576) (i h : Int) (h0 : 0 ≤ i) (h1 : i ≤ b.length) : ∃ v i' h', spec_l01Byte.f b i h = some (v, i', h') ∧ 0 ≤ v ∧ v ≤ 255 ∧ 0 ≤ i' ∧ i' ≤ b.length := by
  unfold spec_l01Byte.f
  by_cases hc : i < (b.length : Int)
  · rw [if_pos hc, if_pos h0, i64_and255]
    exact ⟨_, _, _, rfl, by omega, by omega, by rw [w64 (by omega) (by omega)]; omega, by rw [w64 (by omega) (by omega)]; omega⟩
  · rw [if_neg hc, i64_and255]
    exact ⟨_, _, _, rfl, by omega, by omega, h0, h1⟩
theorem tmod_in {x n : Int} (h0 : 0 ≤ x) (hn : 0 < n) : 0 ≤ Int.tmod x n ∧ Int.tmod x n < n := by
  rw [Int.tmod_eq_emod_of_nonneg h0]
  exact ⟨Int.emod_nonneg _ (by omega), Int.emod_lt_of_pos _ hn⟩
theorem spec_l01Below.is (b : List Int) (hs : b.length ≤ 1048576) (i h n : Int) (h0 : 0 ≤ i) (h1 : i ≤ b.length) : ∃ v i' h', spec_l01Below.f b i h n = some (v, i', h') ∧ 0 ≤ v ∧ (n ≤ 0 → v = 0) ∧ (0 < n → v < n) ∧ 0 ≤ i' ∧ i' ≤ b.length := by
  unfold spec_l01Below.f
  by_cases hc : n ≤ 0
  · rw [if_pos hc]
    exact ⟨_, _, _, rfl, by omega, fun _ => rfl, fun h => by omega, h0, h1⟩
  · rw [if_neg hc]
    by_cases hd : n ≤ 256
    · obtain ⟨v, i', h', e, g0, g1, g2, g3⟩ := spec_l01Byte.is b hs i h h0 h1
      rw [if_pos hd, e, Option.bind_some, if_neg (by omega)]
      have := tmod_in g0 (show 0 < n by omega)
      exact ⟨_, _, _, rfl, this.1, fun h => by omega, fun _ => this.2, g2, g3⟩
    · obtain ⟨v1, i1, s1, e1, a1, b1, c1, d1⟩ := spec_l01Byte.is b hs i h h0 h1
      obtain ⟨v2, i2, s2, e2, a2, b2, c2, d2⟩ := spec_l01Byte.is b hs i1 s1 c1 d1
      obtain ⟨v3, i3, s3, e3, a3, b3, c3, d3⟩ := spec_l01Byte.is b hs i2 s2 c2 d2
      obtain ⟨v4, i4, s4, e4, a4, b4, c4, d4⟩ := spec_l01Byte.is b hs i3 s3 c3 d3
      rw [if_neg hd, e1, Option.bind_some]
      dsimp only
      rw [e2, Option.bind_some]
      dsimp only
      rw [e3, Option.bind_some]
      dsimp only
      rw [e4, Option.bind_some, if_neg (by omega)]
      have hw : 0 ≤ wrap64 ((wrap64 ((wrap64 ((wrap64 (v1 * 16777216)) + (wrap64 (v2 * 65536)))) + (wrap64 (v3 * 256)))) + v4) := by
        rw [w64 (x := v1 * 16777216) (by omega) (by omega), w64 (x := v2 * 65536) (by omega) (by omega), w64 (x := v3 * 256) (by omega) (by omega), w64 (x := v1 * 16777216 + v2 * 65536) (by omega) (by omega),
          w64 (x := v1 * 16777216 + v2 * 65536 + v3 * 256) (by omega) (by omega), w64 (by omega) (by omega)]
        omega
      have := tmod_in hw (show 0 < n by omega)
      exact ⟨_, _, _, rfl, this.1, fun h => by omega, fun _ => this.2, c4, d4⟩
theorem spec_l01Pick.is (b : List Int) (hs : b.length ≤ 1048576) (i h : Int) (l : List ByteArray) (hl : 0 < l.length) (h0 : 0 ≤ i) (h1 : i ≤ b.length) : ∃ v i' h', spec_l01Pick.f b i h l = some (v, i', h') ∧ v ∈ l ∧ 0 ≤ i' ∧ i' ≤ b.length := by
  obtain ⟨v, i', h', e, g0, _, g1, g2, g3⟩ := spec_l01Below.is b hs i h (l.length : Int) h0 h1
  have g1 := g1 (by omega)
  obtain ⟨n, rfl⟩ := Int.eq_ofNat_of_zero_le g0
  have hn : n < l.length := by omega
  refine ⟨l[n], i', h', ?_, List.getElem_mem hn, g2, g3⟩
  unfold spec_l01Pick.f
  rw [e, Option.bind_some, if_pos (show (0 : Int) ≤ (n : Int) by omega), if_pos (show (n : Int) < (l.length : Int) by omega)]
  have : rdOf ByteArray.empty l (n : Int) = l[n] := by
    show l.getD n ByteArray.empty = _
    simp [List.getD_eq_getElem?_getD, List.getElem?_eq_getElem hn]
  rw [this]
theorem spec_l05KeyOf.is (b : List Int) (hs : b.length ≤ 1048576) (i h : Int) (h0 : 0 ≤ i) (h1 : i ≤ b.length) : ∃ v i' h', spec_l05KeyOf.f b i h = some (v, i', h') ∧ 1 ≤ v.size ∧ v.size ≤ 10 ∧ 0 ≤ i' ∧ i' ≤ b.length := by
  unfold spec_l05KeyOf.f
  obtain ⟨v, i', h', e, g, g0, g1⟩ := spec_l01Pick.is b hs i h (([(⟨#[107, 97]⟩ : ByteArray), (⟨#[107, 98]⟩ : ByteArray), (⟨#[107, 99]⟩ : ByteArray), (⟨#[110]⟩ : ByteArray), (⟨#[115, 49]⟩ : ByteArray), (⟨#[115, 50]⟩ : ByteArray), (⟨#[107, 100]⟩ : ByteArray)] : List ByteArray)) (by decide) h0 h1
  rw [e, Option.bind_some]
  refine ⟨v, i', h', rfl, ?_, ?_, g0, g1⟩
  · simp only [List.mem_cons, List.not_mem_nil, or_false] at g
    rcases g with rfl | rfl | rfl | rfl | rfl | rfl | rfl <;> decide
  · simp only [List.mem_cons, List.not_mem_nil, or_false] at g
    rcases g with rfl | rfl | rfl | rfl | rfl | rfl | rfl <;> decide
theorem spec_l01Text.ev0 (b : List Int) (hs : b.length ≤ 1048576) (n : Int) (hn : n ≤ 5000) (d : Nat) : ∀ (j : Nat) (acc : List UInt8) (i h : Int), n ≤ (j : Int) + d → j ≤ 5000 → acc.length = j → 0 ≤ i → i ≤ b.length → ((j : Int) ≤ n ∨ j = 0) →
    ∃ t i' h', Ev (fun k => spec_l01Text.l0 k n (nm acc) (j : Int) b i h) (mk t, i', h') ∧ (t.length : Int) = max n 0 ∧ 0 ≤ i' ∧ i' ≤ b.length := by
  induction d with
  | zero =>
    intro j acc i h hj hj2 hacc h0 h1 hjn
    refine ⟨acc, i, h, ⟨1, fun k hk => ?_⟩, by omega, h0, h1⟩
    obtain ⟨k, rfl⟩ : ∃ m, k = m + 1 := ⟨k - 1, by omega⟩
    show spec_l01Text.l0 (k + 1) _ _ _ _ _ _ = _
    rw [spec_l01Text.l0, if_neg (by omega), strOf_nm]
  | succ d ih =>
    intro j acc i h hj hj2 hacc h0 h1 hjn
    by_cases hc : (j : Int) < n
    · obtain ⟨v, i', h', e, g0, g1, g2, g3⟩ := spec_l01Byte.is b hs i h h0 h1
      obtain ⟨vn, rfl⟩ := Int.eq_ofNat_of_zero_le g0
      obtain ⟨t, i2, h2, hh, ht, k0, k1⟩ := ih (j + 1) (acc ++ [UInt8.ofNat vn]) i' h' (by omega) (by omega) (by simp; omega) g2 g3 (by omega)
      have e3 : Hd (wrap64 ((j : Int) + 1) = ((j + 1 : Nat) : Int)) := Hd.mk <| by rw [w64 (by omega) (by omega)]; rfl
      refine ⟨t, i2, h2, Ev.step (fun k => ?_) hh, ht, k0, k1⟩
      show spec_l01Text.l0 (k + 1) _ _ _ _ _ _ = spec_l01Text.l0 k _ _ _ _ _ _
      rw [spec_l01Text.l0, if_pos hc, e, Option.bind_some]
      dsimp only
      rw [if_pos (by rw [nm_length]; omega), e3.out, nm_append, nm_u8 vn (by omega), show ((vn : Int) % 256) = (vn : Int) by omega]
    · refine ⟨acc, i, h, ⟨1, fun k hk => ?_⟩, by omega, h0, h1⟩
      obtain ⟨k, rfl⟩ : ∃ m, k = m + 1 := ⟨k - 1, by omega⟩
      show spec_l01Text.l0 (k + 1) _ _ _ _ _ _ = _
      rw [spec_l01Text.l0, if_neg (by omega), strOf_nm]
theorem spec_l01Text.ev (b : List Int) (hs : b.length ≤ 1048576) (i h n : Int) (h0 : 0 ≤ i) (h1 : i ≤ b.length) :
    ∃ t i' h', Ev (fun k => spec_l01Text.f k b i h n) (mk t, i', h') ∧ (t.length : Int) = max (min n 5000) 0 ∧ 0 ≤ i' ∧ i' ≤ b.length := by
  by_cases hc : n > 5000
  · obtain ⟨t, i', h', ⟨K, hK⟩, ht, k0, k1⟩ := spec_l01Text.ev0 b hs 5000 (by omega) 5000 0 [] i h (by omega) (by omega) rfl h0 h1 (by omega)
    dsimp only at hK
    refine ⟨t, i', h', ⟨K + 1, fun k hk => ?_⟩, by omega, k0, k1⟩
    obtain ⟨k, rfl⟩ : ∃ m, k = m + 1 := ⟨k - 1, by omega⟩
    show spec_l01Text.f (k + 1) _ _ _ _ = _
    unfold spec_l01Text.f
    rw [if_pos hc, spec_l01Text.j0]
    exact hK k (by omega)
  · obtain ⟨t, i', h', ⟨K, hK⟩, ht, k0, k1⟩ := spec_l01Text.ev0 b hs n (by omega) 5000 0 [] i h (by omega) (by omega) rfl h0 h1 (by omega)
    dsimp only at hK
    refine ⟨t, i', h', ⟨K + 1, fun k hk => ?_⟩, by omega, k0, k1⟩
    obtain ⟨k, rfl⟩ : ∃ m, k = m + 1 := ⟨k - 1, by omega⟩
    show spec_l01Text.f (k + 1) _ _ _ _ = _
    unfold spec_l01Text.f
    rw [if_neg hc, spec_l01Text.j0]
    exact hK k (by omega)
theorem spec_l06Cut.ev0 (l : List S59) (a : ByteArray) (hs : l.length ≤ 1048576) (d : Nat) : ∀ (i : Nat) (acc : List S59), i + d = l.length → acc.length ≤ i →
    Ev (fun k => spec_l06Cut.l0 k l a acc (i : Int)) (acc ++ (l.drop i).filter (fun y => decide (y.f0 ≠ a))) := by
  induction d with
  | zero =>
    intro i acc hi ha
    refine ev_now fun k => ?_
    show spec_l06Cut.l0 (k + 1) _ _ _ _ = _
    rw [spec_l06Cut.l0, if_neg (by omega), List.drop_eq_nil_of_le (by omega), List.filter_nil, List.append_nil]
  | succ d ih =>
    intro i acc hi ha
    have hlt : i < l.length := by omega
    have ew : Hd (wrap64 ((i : Int) + 1) = ((i + 1 : Nat) : Int)) := Hd.mk <| by rw [w64 (by omega) (by omega)]; rfl
    rw [List.drop_eq_getElem_cons hlt, List.filter_cons]
    by_cases hc : l[i].f0 = a
    · rw [if_neg (by simpa using hc)]
      refine Ev.step (fun k => ?_) (ih (i + 1) acc (by omega) (by omega))
      show spec_l06Cut.l0 (k + 1) _ _ _ _ = spec_l06Cut.l0 k _ _ _ _
      rw [spec_l06Cut.l0, if_pos (by omega), if_pos (by omega), rdI_Pair l i hlt, if_pos (tl_eq.2 hc), ew.out]
    · rw [if_pos (by simpa using hc)]
      have := ih (i + 1) (acc ++ [l[i]]) (by omega) (by simp; omega)
      rw [List.append_assoc, List.singleton_append] at this
      refine Ev.step (fun k => ?_) this
      show spec_l06Cut.l0 (k + 1) _ _ _ _ = spec_l06Cut.l0 k _ _ _ _
      rw [spec_l06Cut.l0, if_pos (by omega), if_pos (by omega), rdI_Pair l i hlt, if_neg (fun h => hc (tl_eq.1 h)), if_pos (by omega), ew.out]
theorem spec_l06Cut.ev (l : List S59) (a : ByteArray) (hs : l.length ≤ 1048576) : Ev (fun k => spec_l06Cut.f k l a) (cutMap l a) := by
  obtain ⟨K, h⟩ := spec_l06Cut.ev0 l a hs l.length 0 [] (by omega) (by simp)
  exact ⟨K, fun k hk => h k hk⟩
theorem spec_l06Put.ev1 (l : List S59) (a b : ByteArray) (hs : l.length ≤ 1048576) (d : Nat) : ∀ (i : Nat) (acc : List S59), i + d = l.length → acc.length ≤ 1048577 + i →
    Ev (fun k => spec_l06Put.l1 k l a acc (i : Int)) (acc ++ (l.drop i).filter (fun y => decide (bl a < bl y.f0))) := by
  induction d with
  | zero =>
    intro i acc hi ha
    refine ev_now fun k => ?_
    show spec_l06Put.l1 (k + 1) _ _ _ _ = _
    rw [spec_l06Put.l1, if_neg (by omega), List.drop_eq_nil_of_le (by omega), List.filter_nil, List.append_nil]
  | succ d ih =>
    intro i acc hi ha
    have hlt : i < l.length := by omega
    have ew : Hd (wrap64 ((i : Int) + 1) = ((i + 1 : Nat) : Int)) := Hd.mk <| by rw [w64 (by omega) (by omega)]; rfl
    rw [List.drop_eq_getElem_cons hlt, List.filter_cons]
    by_cases hc : bl a < bl l[i].f0
    · rw [if_pos (decide_eq_true hc)]
      have := ih (i + 1) (acc ++ [l[i]]) (by omega) (by simp; omega)
      rw [List.append_assoc, List.singleton_append] at this
      refine Ev.step (fun k => ?_) this
      show spec_l06Put.l1 (k + 1) _ _ _ _ = spec_l06Put.l1 k _ _ _ _
      rw [spec_l06Put.l1, if_pos (by omega), if_pos (by omega), rdI_Pair l i hlt, if_pos (by rw [bless, bl_toList, bl_toList]; exact decide_eq_true hc), if_pos (by omega), ew.out]
    · rw [if_neg (by simpa using hc)]
      refine Ev.step (fun k => ?_) (ih (i + 1) acc (by omega) (by omega))
      show spec_l06Put.l1 (k + 1) _ _ _ _ = spec_l06Put.l1 k _ _ _ _
      rw [spec_l06Put.l1, if_pos (by omega), if_pos (by omega), rdI_Pair l i hlt, if_neg (by rw [bless, bl_toList, bl_toList]; simpa using hc), ew.out]
theorem spec_l06Put.ev0 (l : List S59) (a b : ByteArray) (hs : l.length ≤ 1048576) (d : Nat) : ∀ (i : Nat) (acc : List S59), i + d = l.length → acc.length ≤ i →
    Ev (fun k => spec_l06Put.l0 k l a b acc (i : Int)) (acc ++ (l.drop i).filter (fun y => decide (bl y.f0 < bl a)) ++ [⟨a, b⟩] ++ l.filter (fun y => decide (bl a < bl y.f0))) := by
  induction d with
  | zero =>
    intro i acc hi ha
    have h1 := spec_l06Put.ev1 l a b hs l.length 0 (acc ++ [⟨a, b⟩]) (by omega) (by simp; omega)
    rw [List.drop_eq_nil_of_le (by omega), List.filter_nil, List.append_nil]
    refine Ev.step (fun k => ?_) h1
    show spec_l06Put.l0 (k + 1) _ _ _ _ _ = spec_l06Put.l1 k _ _ _ _
    rw [spec_l06Put.l0, if_neg (by omega), if_pos (by omega)]
    rfl
  | succ d ih =>
    intro i acc hi ha
    have hlt : i < l.length := by omega
    have ew : Hd (wrap64 ((i : Int) + 1) = ((i + 1 : Nat) : Int)) := Hd.mk <| by rw [w64 (by omega) (by omega)]; rfl
    rw [List.drop_eq_getElem_cons hlt, List.filter_cons]
    by_cases hc : bl l[i].f0 < bl a
    · rw [if_pos (decide_eq_true hc)]
      have := ih (i + 1) (acc ++ [l[i]]) (by omega) (by simp; omega)
      rw [List.append_assoc acc, List.singleton_append] at this
      refine Ev.step (fun k => ?_) this
      show spec_l06Put.l0 (k + 1) _ _ _ _ _ = spec_l06Put.l0 k _ _ _ _ _
      rw [spec_l06Put.l0, if_pos (by omega), if_pos (by omega), rdI_Pair l i hlt, if_pos (by rw [bless, bl_toList, bl_toList]; exact decide_eq_true hc), if_pos (by omega), ew.out]
    · rw [if_neg (by simpa using hc)]
      refine Ev.step (fun k => ?_) (ih (i + 1) acc (by omega) (by omega))
      show spec_l06Put.l0 (k + 1) _ _ _ _ _ = spec_l06Put.l0 k _ _ _ _ _
      rw [spec_l06Put.l0, if_pos (by omega), if_pos (by omega), rdI_Pair l i hlt, if_neg (by rw [bless, bl_toList, bl_toList]; simpa using hc), ew.out]
theorem spec_l06Put.ev (l : List S59) (a b : ByteArray) (hs : l.length ≤ 1048576) : Ev (fun k => spec_l06Put.f k l a b) (putMap l ⟨a, b⟩) := by
  obtain ⟨K, h⟩ := spec_l06Put.ev0 l a b hs l.length 0 [] (by omega) (by simp)
  exact ⟨K, fun k hk => h k hk⟩
theorem spec_l06Right.ev0 (b : List Int) (hs : b.length ≤ 1048576) (d : Nat) : ∀ (j : Nat) (m : List S59) (i h : Int), j + d = 5 → rightM j m → 0 ≤ i → i ≤ b.length →
    ∃ m' i' h', Ev (fun k => spec_l06Right.l0 k m (j : Int) b i h) (m', i', h') ∧ rightM 5 m' ∧ 0 ≤ i' ∧ i' ≤ b.length := by
  induction d with
  | zero =>
    intro j m i h hj hm h0 h1
    obtain ⟨v, i', h', e, g0, _, g1, g2, g3⟩ := spec_l01Below.is b hs i h 6 h0 h1
    have g1 := g1 (by omega)
    refine ⟨m, i', h', ev_now fun k => ?_, ⟨hm.1, by have := hm.2.1; omega, hm.2.2⟩, g2, g3⟩
    show spec_l06Right.l0 (k + 1) _ _ _ _ _ = _
    rw [spec_l06Right.l0, e, Option.bind_some, if_neg (show ¬ (j : Int) < v by omega)]
  | succ d ih =>
    intro j m i h hj hm h0 h1
    obtain ⟨v, i', h', e, g0, _, g1, g2, g3⟩ := spec_l01Below.is b hs i h 6 h0 h1
    by_cases hc : (j : Int) < v
    · obtain ⟨k2, i2, s2, e2, a0, a1, a2, a3⟩ := spec_l05KeyOf.is b hs i' h' g2 g3
      obtain ⟨n3, i3, s3, e3, b0, _, b1, b2, b3⟩ := spec_l01Below.is b hs i2 s2 4 a2 a3
      have b1 := b1 (by omega)
      obtain ⟨t4, i4, s4, ⟨K4, e4⟩, c0, c2, c3⟩ := spec_l01Text.ev b hs i3 s3 n3 b2 b3
      have hm2 : rightM j (cutMap m (⟨#[]⟩ : ByteArray)) := rightM_cut hm _
      have hm3 : rightM (j + 1) (putMap (cutMap m (⟨#[]⟩ : ByteArray)) ⟨k2, mk t4⟩) := rightM_put hm2 _ ⟨a0, a1, by show (mk t4).size ≤ 40; rw [mk_size]; omega⟩
      obtain ⟨m', i5, s5, ⟨K5, e5⟩, hm5, d2, d3⟩ := ih (j + 1) _ i4 s4 (by omega) hm3 c2 c3
      obtain ⟨K6, e6⟩ := spec_l06Cut.ev m (⟨#[]⟩ : ByteArray) (by have := hm.2.1; omega)
      obtain ⟨K7, e7⟩ := spec_l06Put.ev (cutMap m (⟨#[]⟩ : ByteArray)) k2 (mk t4) (by have := hm2.2.1; omega)
      dsimp only at e4 e5 e6 e7
      have ew : Hd (wrap64 ((j : Int) + 1) = ((j + 1 : Nat) : Int)) := Hd.mk <| by rw [w64 (by omega) (by omega)]; rfl
      refine ⟨m', i5, s5, ⟨K4 + K5 + K6 + K7 + 1, fun k hk => ?_⟩, hm5, d2, d3⟩
      obtain ⟨k, rfl⟩ : ∃ m, k = m + 1 := ⟨k - 1, by omega⟩
      show spec_l06Right.l0 (k + 1) _ _ _ _ _ = _
      rw [spec_l06Right.l0, e, Option.bind_some, if_pos hc, e6 k (by omega), Option.bind_some]
      dsimp only
      rw [e2, Option.bind_some]
      dsimp only
      rw [e3, Option.bind_some]
      dsimp only
      rw [e4 k (by omega), Option.bind_some]
      dsimp only
      rw [e7 k (by omega), Option.bind_some, ew.out]
      exact e5 k (by omega)
    · refine ⟨m, i', h', ev_now fun k => ?_, ⟨hm.1, by have := hm.2.1; omega, hm.2.2⟩, g2, g3⟩
      show spec_l06Right.l0 (k + 1) _ _ _ _ _ = _
      rw [spec_l06Right.l0, e, Option.bind_some, if_neg hc]
theorem spec_DrawRightMaps.ev (l : List Int) (hs : l.length ≤ 1048576) : ∃ a b, Ev (fun k => spec_DrawRightMaps.f k l) (a, b) ∧ rightM 5 a ∧ rightM 5 b := by
  obtain ⟨h, ⟨K1, h1⟩⟩ := spec_l01New.ev l hs
  have hn : rightM 0 ([] : List S59) := ⟨fun i j hij hj => by simp at hj, by simp, fun x hx => by cases hx⟩
  obtain ⟨a, i2, s2, ⟨K2, h2⟩, ha, a0, a1⟩ := spec_l06Right.ev0 l hs 5 0 [] 0 h (by omega) hn (by omega) (by omega)
  obtain ⟨b, i3, s3, ⟨K3, h3⟩, hb, b0, b1⟩ := spec_l06Right.ev0 l hs 5 0 [] i2 s2 (by omega) hn a0 a1
  dsimp only at h1 h2 h3
  refine ⟨a, b, ⟨K1 + K2 + K3, fun k hk => ?_⟩, ha, hb⟩
  show spec_DrawRightMaps.f k _ = _
  unfold spec_DrawRightMaps.f spec_l06Right.f
  rw [h1 k (by omega), Option.bind_some]
  dsimp only
  have h2' := h2 k (by omega)
  have h3' := h3 k (by omega)
  rw [show ((0 : Nat) : Int) = 0 from rfl] at h2' h3'
  rw [h2', Option.bind_some]
  dsimp only
  rw [h3', Option.bind_some]
theorem laws_sameMap.ev0 (l : List S59) (hs : l.length ≤ 1048576) (d : Nat) : ∀ i : Nat, i + d = l.length → Ev (fun k => laws_sameMap.l0 k l l (i : Int)) true := by
  induction d with
  | zero =>
    intro i hi
    refine ev_now fun k => ?_
    show laws_sameMap.l0 (k + 1) _ _ _ = _
    rw [laws_sameMap.l0, if_neg (by omega)]
  | succ d ih =>
    intro i hi
    have ew : Hd (wrap64 ((i : Int) + 1) = ((i + 1 : Nat) : Int)) := Hd.mk <| by rw [w64 (by omega) (by omega)]; rfl
    refine Ev.step (fun k => ?_) (ih (i + 1) (by omega))
    show laws_sameMap.l0 (k + 1) _ _ _ = laws_sameMap.l0 k _ _ _
    rw [laws_sameMap.l0, if_pos (by omega), if_pos (by omega), if_pos (by omega), rdI_Pair l i (by omega), if_neg (by simp), ew.out]
theorem laws_sameMap.ev (l : List S59) (hs : l.length ≤ 1048576) : Ev (fun k => laws_sameMap.f k l l) true := by
  obtain ⟨K, h⟩ := laws_sameMap.ev0 l hs l.length 0 (by omega)
  dsimp only at h
  refine ⟨K, fun k hk => ?_⟩
  show laws_sameMap.f k l l = _
  unfold laws_sameMap.f
  rw [if_pos rfl]
  exact h k hk
theorem impl_pairNo.cmp_eq (l : List S59) (a : ByteArray) (i : Nat) : impl_pairNo.cmp l a i = Lib.compareBytes (bl (l.getD i z59).f0) (bl a) := rfl
theorem impl_pairNo.mono_of {l : List S59} (h : srtMap l) (hl : (l.length : Int) ≤ 1048576) (a : ByteArray) : impl_pairNo.mono0 l a = true := by
  unfold impl_pairNo.mono0
  simp only [Bool.and_eq_true, decide_eq_true_eq, List.all_eq_true, List.mem_range, Bool.or_eq_true, Bool.not_eq_true', decide_eq_false_iff_not]
  refine ⟨by omega, fun b hb i hi => ?_⟩
  by_cases hc : impl_pairNo.cmp l a b < 0
  · right
    rw [impl_pairNo.cmp_eq, cmpB_lt] at hc ⊢
    by_cases e : i = b
    · rw [e]; exact hc
    · exact bl_trans (h i b (by omega) hb) hc
  · exact Or.inl hc
theorem impl_pairNo.found {l : List S59} (h : srtMap l) (hl : (l.length : Int) ≤ 1048576) (a : ByteArray) (p : Nat) (hp : p < l.length) (he : (l.getD p z59).f0 = a) : impl_pairNo.f l a = some ((p : Int), true) := by
  have hcnt : impl_pairNo.cnt l a = p := impl_pairNo.cnt_eq p (by omega) (fun t ht => by
    rw [impl_pairNo.cmp_eq, cmpB_lt, ← he]
    exact h t p ht hp) (fun t h1 h2 => Int.not_lt.1 fun hc => by
    rw [impl_pairNo.cmp_eq, cmpB_lt, ← he] at hc
    by_cases e : p = t
    · rw [e] at hc; exact bl_irrefl _ hc
    · exact bl_irrefl _ (bl_trans hc (h p t (by omega) h2)))
  unfold impl_pairNo.f
  rw [if_pos (impl_pairNo.mono_of h hl a), hcnt, decide_eq_true hp, impl_pairNo.cmp_eq, he, decide_eq_true ((cmpB_eq _ _).2 rfl)]
  rfl
/-- The place behind the names that are below a. -/
theorem splitMap (l : List S59) (h : srtMap l) (a : ByteArray) : ∃ c, c ≤ l.length ∧ (∀ t, t < c → bl (l.getD t z59).f0 < bl a) ∧ (∀ t, c ≤ t → t < l.length → ¬ bl (l.getD t z59).f0 < bl a) := by
  have : ∀ n, n ≤ l.length → ∃ c, c ≤ n ∧ (∀ t, t < c → bl (l.getD t z59).f0 < bl a) ∧ (∀ t, c ≤ t → t < n → ¬ bl (l.getD t z59).f0 < bl a) := by
    intro n
    induction n with
    | zero => exact fun _ => ⟨0, by omega, fun t ht => by omega, fun t h1 h2 => by omega⟩
    | succ n ih =>
      intro hn
      obtain ⟨c, h1, h2, h3⟩ := ih (by omega)
      by_cases hc : bl (l.getD n z59).f0 < bl a
      · refine ⟨n + 1, by omega, fun t ht => ?_, fun t h1 h2 => by omega⟩
        by_cases e : t = n
        · rw [e]; exact hc
        · exact bl_trans (h t n (by omega) (by omega)) hc
      · refine ⟨c, by omega, h2, fun t h4 h5 => ?_⟩
        by_cases e : t = n
        · rw [e]; exact hc
        · exact h3 t h4 (by omega)
  exact this l.length (Nat.le_refl _)
theorem impl_pairNo.none_ {l : List S59} (h : srtMap l) (hl : (l.length : Int) ≤ 1048576) (a : ByteArray) (hn : ∀ p, p < l.length → (l.getD p z59).f0 ≠ a) :
    ∃ c, c ≤ l.length ∧ impl_pairNo.f l a = some ((c : Int), false) ∧ (∀ t, t < c → bl (l.getD t z59).f0 < bl a) ∧ (∀ t, c ≤ t → t < l.length → bl a < bl (l.getD t z59).f0) := by
  obtain ⟨c, h1, h2, h3⟩ := splitMap l h a
  have hcnt : impl_pairNo.cnt l a = c := impl_pairNo.cnt_eq c h1 (fun t ht => by
    rw [impl_pairNo.cmp_eq, cmpB_lt]
    exact h2 t ht) (fun t h4 h5 => Int.not_lt.1 fun hc => by
    rw [impl_pairNo.cmp_eq, cmpB_lt] at hc
    exact h3 t h4 h5 hc)
  refine ⟨c, h1, ?_, h2, fun t h4 h5 => ?_⟩
  · unfold impl_pairNo.f
    rw [if_pos (impl_pairNo.mono_of h hl a), hcnt]
    by_cases hc : c < l.length
    · rw [impl_pairNo.cmp_eq, decide_eq_false (p := Lib.compareBytes _ _ = 0) (fun e => hn c hc (bl_inj ((cmpB_eq _ _).1 e))), Bool.and_false]
    · rw [decide_eq_false hc, Bool.false_and]
  · rcases bl_tri (bl a) (bl (l.getD t z59).f0) with e | e | e
    · exact e
    · exact absurd (bl_inj e).symm (hn t h5)
    · exact absurd e (h3 t h4 h5)
theorem impl_withKey.is (l : List S59) (h : srtMap l) (hs : l.length ≤ 1048575) (a b : ByteArray) : impl_withKey.f l a b = some (putMap l ⟨a, b⟩) := by
  unfold impl_withKey.f
  rw [if_pos (by simp; omega), Option.bind_some, List.nil_append]
  rcases posMap_cases l a l.length 0 with ⟨p, h1, h2, h3, h4⟩ | ⟨h1, h2⟩
  · have hp : p < l.length := by omega
    rw [impl_pairNo.found h (by omega) a p hp h3, Option.bind_some, if_pos rfl, if_pos (show (0 : Int) ≤ (p : Int) by omega), if_pos (show (p : Int) < (l.length : Int) by omega), putMap_at h ⟨a, b⟩ p hp h3]
    have e : rd_T59 l (p : Int) = l.getD p z59 := rfl
    rw [e, h3]
    rfl
  · obtain ⟨c, hc, hf, h5, h6⟩ := impl_pairNo.none_ h (by omega) a (fun p hp => h1 p (by omega) (by omega))
    rw [hf, Option.bind_some, if_neg (show ¬ (false = true) by decide)]
    unfold impl_Pair_112.f
    rw [if_pos ⟨by omega, by omega, rfl, by omega⟩, Option.bind_some, putMap_new ⟨a, b⟩ c hc h5 h6]
    rfl
theorem impl_withoutKey.is (l : List S59) (h : srtMap l) (hs : l.length ≤ 1048575) (a : ByteArray) : impl_withoutKey.f l a = some (cutMap l a) := by
  unfold impl_withoutKey.f
  rw [if_pos (by simp; omega), Option.bind_some, List.nil_append]
  rcases posMap_cases l a l.length 0 with ⟨p, h1, h2, h3, h4⟩ | ⟨h1, h2⟩
  · have hp : p < l.length := by omega
    rw [impl_pairNo.found h (by omega) a p hp h3, Option.bind_some, if_pos rfl, cutMap_at h a p hp h3]
    have e : wrap64 ((p : Int) + 1) = (p : Int) + 1 := w64 (by omega) (by omega)
    unfold impl_Pair_111.f
    rw [e, if_pos ⟨by omega, rfl, by omega⟩, Option.bind_some]
    rfl
  · obtain ⟨c, hc, hf, h5, h6⟩ := impl_pairNo.none_ h (by omega) a (fun p hp => h1 p (by omega) (by omega))
    rw [hf, Option.bind_some, if_neg (show ¬ (false = true) by decide), cutMap_none a (fun p hp => h1 p (by omega) (by omega))]
theorem impl_within.is (a lo hi : Int) : impl_within.f a lo hi = some (decide (lo ≤ a ∧ a ≤ hi)) := by
  unfold impl_within.f
  by_cases h : a ≥ lo
  · rw [if_pos h]
    congr 1
    simp only [decide_eq_decide]
    exact ⟨fun h' => ⟨h, h'⟩, fun h' => h'.2⟩
  · rw [if_neg h, decide_eq_false (fun h' => h h'.1)]
theorem impl_keyOk.is (s : ByteArray) : impl_keyOk.f s = some (decide (1 ≤ (s.size : Int) ∧ (s.size : Int) ≤ 10)) := by
  unfold impl_keyOk.f
  rw [impl_within.is, Option.bind_some]
theorem impl_MapOk.ev0 (l : List S59) (hs : l.length ≤ 1048576) (d : Nat) : ∀ (i : Nat), i + d = l.length →
    Ev (fun k => impl_MapOk.l0 k l l (l.length : Int) (i : Int)) (allF (mapC l) d i && decide ((l.length : Int) ≤ 60)) := by
  induction d with
  | zero =>
    intro i hi
    refine ev_now fun k => ?_
    show impl_MapOk.l0 (k + 1) _ _ _ _ = _
    rw [impl_MapOk.l0, if_neg (by omega)]
    simp [allF]
  | succ d ih =>
    intro i hi
    have e0 : rd_T59 l (i : Int) = l.getD i z59 := rfl
    by_cases h1 : 1 ≤ ((l.getD i z59).f0.size : Int) ∧ ((l.getD i z59).f0.size : Int) ≤ 10
    · by_cases hv : ((l.getD i z59).f1.size : Int) ≤ 40
      · by_cases h2 : i = 0
        · have hC : mapC l i = true := by simp only [mapC, decide_eq_true h1, decide_eq_true hv, decide_eq_true h2, Bool.true_or, Bool.and_true]
          simp only [allF, hC, Bool.true_and]
          refine Ev.step (fun k => ?_) (ih (i + 1) (by omega))
          show impl_MapOk.l0 (k + 1) _ _ _ _ = impl_MapOk.l0 k _ _ _ _
          rw [impl_MapOk.l0, if_pos (by omega), if_pos (by omega), if_pos (by omega), e0, impl_keyOk.is, decide_eq_true h1]
          simp only [Option.bind_some, if_true]
          rw [if_neg (by omega), if_neg (by omega), w64 (by omega) (by omega)]
          rfl
        · have e2 : Hd (wrap64 ((i : Int) - 1) = ((i - 1 : Nat) : Int)) := Hd.mk <| by rw [w64 (by omega) (by omega)]; omega
          have e1 : rd_T59 l ((i - 1 : Nat) : Int) = l.getD (i - 1) z59 := rfl
          by_cases h3 : Op.bytesLess (l.getD (i - 1) z59).f0.toList (l.getD i z59).f0.toList = true
          · have hC : mapC l i = true := by simp only [mapC, decide_eq_true h1, decide_eq_true hv, h3, Bool.or_true, Bool.and_true]
            simp only [allF, hC, Bool.true_and]
            refine Ev.step (fun k => ?_) (ih (i + 1) (by omega))
            show impl_MapOk.l0 (k + 1) _ _ _ _ = impl_MapOk.l0 k _ _ _ _
            rw [impl_MapOk.l0, if_pos (by omega), if_pos (by omega), if_pos (by omega), e0, impl_keyOk.is, decide_eq_true h1]
            simp only [Option.bind_some, if_true]
            rw [if_neg (by omega), if_pos (by omega), e2.out, if_pos (by omega), if_pos (by omega), e1, if_pos h3, w64 (x := (i : Int) + 1) (by omega) (by omega)]
            rfl
          · have hC : mapC l i = false := by simp only [mapC, decide_eq_true h1, decide_eq_true hv, Bool.eq_false_iff.2 h3, decide_eq_false h2, Bool.or_false, Bool.and_false]
            simp only [allF, hC, Bool.false_and]
            refine ev_now fun k => ?_
            show impl_MapOk.l0 (k + 1) _ _ _ _ = _
            rw [impl_MapOk.l0, if_pos (by omega), if_pos (by omega), if_pos (by omega), e0, impl_keyOk.is, decide_eq_true h1]
            simp only [Option.bind_some, if_true]
            rw [if_neg (by omega), if_pos (by omega), e2.out, if_pos (by omega), if_pos (by omega), e1, if_neg h3]
      · have hC : mapC l i = false := by simp only [mapC, decide_eq_false hv, Bool.false_and, Bool.and_false]
        simp only [allF, hC, Bool.false_and]
        refine ev_now fun k => ?_
        show impl_MapOk.l0 (k + 1) _ _ _ _ = _
        rw [impl_MapOk.l0, if_pos (by omega), if_pos (by omega), if_pos (by omega), e0, impl_keyOk.is, decide_eq_true h1]
        simp only [Option.bind_some, if_true]
        rw [if_pos (by omega)]
    · have hC : mapC l i = false := by simp only [mapC, decide_eq_false h1, Bool.false_and]
      simp only [allF, hC, Bool.false_and]
      refine ev_now fun k => ?_
      show impl_MapOk.l0 (k + 1) _ _ _ _ = _
      rw [impl_MapOk.l0, if_pos (by omega), if_pos (by omega), if_pos (by omega), e0, impl_keyOk.is, decide_eq_false h1]
      simp
theorem impl_MapOk.ev (l : List S59) (hs : l.length ≤ 1048576) : Ev (fun k => impl_MapOk.f k l) (mapCOf l) := by
  unfold mapCOf
  obtain ⟨K, h⟩ := impl_MapOk.ev0 l hs l.length 0 (by omega)
  rw [Bool.and_comm]
  exact ⟨K, fun k hk => h k hk⟩
theorem loop_all {F : Nat → Nat → Option Bool} {C : Nat → Bool} {n : Nat} {fin : Bool} (step : ∀ k i, i < n → F (k + 1) i = if C i = true then F k (i + 1) else some false)
    (stop : Ev (fun k => F k n) fin) (d : Nat) : ∀ i, i + d = n → Ev (fun k => F k i) (allF C d i && fin) := by
  induction d with
  | zero =>
    intro i hi
    obtain rfl : i = n := by omega
    rw [allF, Bool.true_and]
    exact stop
  | succ d ih =>
    intro i hi
    by_cases hC : C i = true
    · rw [allF, hC, Bool.true_and]
      exact Ev.step (fun k => by rw [step k i (by omega), if_pos hC]) (ih (i + 1) (by omega))
    · rw [allF, Bool.eq_false_iff.2 hC, Bool.false_and, Bool.false_and]
      exact ev_now fun k => by rw [step k i (by omega), if_neg hC]
theorem impl_BatchOk.step (a : Int) (l : List S109) (hs : l.length ≤ 1048576) (k i : Nat) (hlt : i < l.length) :
    impl_BatchOk.l0 (k + 1) l (l.length : Int) (i : Int) a l = if chC l i = true then impl_BatchOk.l0 k l (l.length : Int) ((i + 1 : Nat) : Int) a l else some false := by
  have e0 : rd_T109 l (i : Int) = l.getD i z109 := rfl
  have e3 : Hd (wrap64 ((i : Int) + 1) = ((i + 1 : Nat) : Int)) := Hd.mk <| by rw [w64 (by omega) (by omega)]; rfl
  have e2 : Hd (0 < i → wrap64 ((i : Int) - 1) = ((i - 1 : Nat) : Int)) := Hd.mk fun h => by rw [w64 (by omega) (by omega)]; omega
  rw [impl_BatchOk.l0, if_pos (by omega), if_pos (by omega), if_pos (by omega), e0, impl_keyOk.is, Option.bind_some, e3.out]
  by_cases h2 : i = 0
  · simp only [if_neg (show ¬ ((i : Int) > 0) by omega)]
    unfold chC
    generalize l.getD i z109 = x
    generalize impl_BatchOk.l0 k l (l.length : Int) ((i + 1 : Nat) : Int) a l = R
    by_cases h1 : 1 ≤ (x.f0.size : Int) ∧ (x.f0.size : Int) ≤ 10 <;> by_cases hv : (x.f1.size : Int) > 40 <;> by_cases hg : x.f2 = true <;> by_cases he : x.f1.toList = [] <;> simp [h1, hv, hg, he, h2]
  · have e1 : rd_T109 l ((i - 1 : Nat) : Int) = l.getD (i - 1) z109 := rfl
    simp only [if_pos (show ((i : Int) > 0) by omega), e2.out (by omega), if_pos (show (0 : Int) ≤ ((i - 1 : Nat) : Int) by omega), if_pos (show ((i - 1 : Nat) : Int) < (l.length : Int) by omega), e1]
    unfold chC
    generalize l.getD i z109 = x
    generalize l.getD (i - 1) z109 = y
    generalize impl_BatchOk.l0 k l (l.length : Int) ((i + 1 : Nat) : Int) a l = R
    by_cases h1 : 1 ≤ (x.f0.size : Int) ∧ (x.f0.size : Int) ≤ 10 <;> by_cases hv : (x.f1.size : Int) > 40 <;> by_cases hg : x.f2 = true <;> by_cases he : x.f1.toList = [] <;> by_cases hb : Op.bytesLess y.f0.toList x.f0.toList = true <;> simp [h1, hv, hg, he, hb, h2]
theorem impl_BatchOk.ev (a : Int) (l : List S109) (hs : l.length ≤ 1048576) : Ev (fun k => impl_BatchOk.f k a l) (batchOf a l) := by
  have stop : Ev (fun k => impl_BatchOk.l0 k l (l.length : Int) ((l.length : Nat) : Int) a l) (decide (0 ≤ a ∧ a ≤ 100000) && decide (¬ (l.length : Int) > 60)) := ev_now fun k => by
    show impl_BatchOk.l0 (k + 1) _ _ _ _ _ = _
    rw [impl_BatchOk.l0, if_neg (by omega), impl_within.is, Option.bind_some]
    by_cases h1 : 0 ≤ a ∧ a ≤ 100000
    · rw [decide_eq_true h1, if_pos rfl, Bool.true_and]
      congr 1
      rw [decide_eq_decide]
      omega
    · rw [decide_eq_false h1, if_neg (by simp), Bool.false_and]
  obtain ⟨K, h⟩ := loop_all (F := fun k i => impl_BatchOk.l0 k l (l.length : Int) (i : Int) a l) (fun k i hi => impl_BatchOk.step a l hs k i hi) stop l.length 0 (by omega)
  dsimp only at h
  unfold batchOf
  rw [Bool.and_comm]
  exact ⟨K, fun k hk => h k hk⟩
theorem impl_MapDo.ev0 (cs : List S109) (hs : cs.length ≤ 1048576) (d : Nat) : ∀ (i : Nat) (m : List S59), i + d = cs.length → srtMap m → m.length ≤ 1048575 + i →  m.length + d ≤ 1048575 →
    Ev (fun k => impl_MapDo.l0 k m cs (cs.length : Int) (i : Int)) (mapEnd (doAll m (cs.drop i))) := by
  induction d with
  | zero =>
    intro i m hi hsr hm hmd
    obtain ⟨K, h⟩ := impl_MapOk.ev m (by omega)
    dsimp only at h
    refine ⟨K + 1, fun k hk => ?_⟩
    obtain ⟨k, rfl⟩ : ∃ m, k = m + 1 := ⟨k - 1, by omega⟩
    show impl_MapDo.l0 (k + 1) _ _ _ _ = _
    rw [impl_MapDo.l0, if_neg (by omega), h k (by omega), Option.bind_some, List.drop_eq_nil_of_le (by omega)]
    unfold mapEnd doAll
    rw [List.foldl_nil]
    by_cases hc : mapCOf m = true
    · rw [if_pos hc, if_pos hc]
    · rw [if_neg hc, if_neg hc]
  | succ d ih =>
    intro i m hi hsr hm hmd
    have hlt : i < cs.length := by omega
    have ew : Hd (wrap64 ((i : Int) + 1) = ((i + 1 : Nat) : Int)) := Hd.mk <| by rw [w64 (by omega) (by omega)]; rfl
    have hl := doOne_len m cs[i]
    have hih := ih (i + 1) (doOne m cs[i]) (by omega) (doOne_srt hsr _) (by omega) (by omega)
    have e0 : doAll m (cs.drop i) = doAll (doOne m cs[i]) (cs.drop (i + 1)) := by
      rw [List.drop_eq_getElem_cons hlt]
      rfl
    rw [e0]
    refine Ev.step (fun k => ?_) hih
    show impl_MapDo.l0 (k + 1) _ _ _ _ = impl_MapDo.l0 k _ _ _ _
    rw [impl_MapDo.l0, if_pos (by omega), if_pos (by omega), if_pos (by omega), rdI_Change cs i hlt, ew.out]
    by_cases hg : cs[i].f2 = true
    · rw [if_pos hg, impl_withoutKey.is m hsr (by omega), Option.bind_some]
      unfold doOne
      rw [if_pos hg]
    · rw [if_neg hg, impl_withKey.is m hsr (by omega), Option.bind_some]
      unfold doOne
      rw [if_neg hg]
theorem impl_MapDo.ev (m : List S59) (hm : m.length ≤ 1048576) (v : Int) (cs : List S109) (hs : cs.length ≤ 1048576) : Ev (fun k => impl_MapDo.f k m v cs) (mapDoOf m v cs) := by
  obtain ⟨K0, h0⟩ := impl_MapOk.ev m hm
  obtain ⟨K1, h1⟩ := impl_BatchOk.ev v cs hs
  dsimp only at h0 h1
  unfold mapDoOf
  by_cases hc : mapCOf m = true
  · obtain ⟨hsr, hml, _⟩ := mapC_srt hc
    by_cases hb : batchOf v cs = true
    · have hcl := batchOf_len hb
      obtain ⟨K2, h2⟩ := impl_MapDo.ev0 cs hs cs.length 0 m (by omega) hsr (by omega) (by omega)
      dsimp only at h2
      refine ⟨K0 + K1 + K2 + 1, fun k hk => ?_⟩
      have h0' := h0 k (by omega)
      have h1' := h1 k (by omega)
      obtain ⟨k, rfl⟩ : ∃ m, k = m + 1 := ⟨k - 1, by omega⟩
      show impl_MapDo.f (k + 1) _ _ _ = _
      unfold impl_MapDo.f
      rw [h0', Option.bind_some, if_pos hc, h1', Option.bind_some, hb, impl_MapDo.j0, if_neg (by simp), if_pos (by simp; omega), List.nil_append, if_pos ⟨hc, rfl⟩]
      exact h2 k (by omega)
    · refine ⟨K0 + K1 + 1, fun k hk => ?_⟩
      have h0' := h0 k (by omega)
      have h1' := h1 k (by omega)
      obtain ⟨k, rfl⟩ : ∃ m, k = m + 1 := ⟨k - 1, by omega⟩
      show impl_MapDo.f (k + 1) _ _ _ = _
      unfold impl_MapDo.f
      rw [h0', Option.bind_some, if_pos hc, h1', Option.bind_some, impl_MapDo.j0, if_pos (by simp [hb]), if_neg (fun h => hb h.2)]
  · refine ⟨K0 + 1, fun k hk => ?_⟩
    have h0' := h0 k (by omega)
    obtain ⟨k, rfl⟩ : ∃ m, k = m + 1 := ⟨k - 1, by omega⟩
    show impl_MapDo.f (k + 1) _ _ _ = _
    unfold impl_MapDo.f
    rw [h0', Option.bind_some, if_neg hc, impl_MapDo.j0, if_pos rfl, if_neg (fun h => hc h.1)]
theorem has_key {b : List S59} (hb : srtMap b) (hl : b.length ≤ 1048576) (k : ByteArray) : (∃ c : Int, impl_pairNo.f b k = some (c, true) ∧ 0 ≤ c ∧ c < (b.length : Int) ∧ (b.getD c.toNat z59).f0 = k) ∨ (∃ c : Int, impl_pairNo.f b k = some (c, false) ∧ ∀ q, q ∈ b → q.f0 ≠ k) := by
  rcases posMap_cases b k b.length 0 with ⟨p, h1, h2, h3, h4⟩ | ⟨h1, h2⟩
  · exact Or.inl ⟨(p : Int), impl_pairNo.found hb (by omega) k p (by omega) h3, by omega, by omega, h3⟩
  · obtain ⟨c, hc, hf, _, _⟩ := impl_pairNo.none_ hb (by omega) k (fun p hp => h1 p (by omega) (by omega))
    refine Or.inr ⟨(c : Int), hf, fun q hq => ?_⟩
    obtain ⟨i, hi, rfl⟩ := List.mem_iff_getElem.1 hq
    have := h1 i (by omega) (by omega)
    rw [getI_Map b i hi] at this
    exact this
def betFin (o : List S109) : List S109 × Bool := if o.length ≤ 60 then (o.mergeSort fun x y => !decide (impl_Change.cf y x < 0), true) else ([], false)
theorem impl_MapBetween.ev1 (a b : List S59) (ha : srtMap a) (hal : a.length ≤ 1048576) (hbl : b.length ≤ 1048576) (d : Nat) : ∀ (j : Nat) (acc : List S109), j + d = b.length → acc.length ≤ 1048576 + j → impl_Change.uniq (acc ++ newL a (b.drop j)) = true →
    Ev (fun k => impl_MapBetween.l1 k a acc b (b.length : Int) (j : Int)) (betFin (acc ++ newL a (b.drop j))) := by
  induction d with
  | zero =>
    intro j acc hj hacc hu
    refine ev_now fun k => ?_
    show impl_MapBetween.l1 (k + 1) _ _ _ _ _ = _
    have e : newL a (b.drop j) = [] := by rw [List.drop_eq_nil_of_le (by omega)]; rfl
    rw [e, List.append_nil] at hu ⊢
    rw [impl_MapBetween.l1, if_neg (by omega)]
    unfold betFin
    by_cases hc : acc.length ≤ 60
    · rw [if_neg (by omega), if_pos hc]
      unfold impl_Change.f
      rw [if_pos hu, Option.bind_some]
    · rw [if_pos (by omega), if_neg hc]
  | succ d ih =>
    intro j acc hj hacc hu
    have hlt : j < b.length := by omega
    have ew : Hd (wrap64 ((j : Int) + 1) = ((j + 1 : Nat) : Int)) := Hd.mk <| by rw [w64 (by omega) (by omega)]; rfl
    have skip : (a.any fun p => decide (p.f0 = b[j].f0) && decide (p.f1 = b[j].f1)) = true → newL a (b.drop j) = newL a (b.drop (j + 1)) := fun h => by
      rw [List.drop_eq_getElem_cons hlt]
      unfold newL
      rw [List.filter_cons, if_neg (by rw [h]; simp)]
    have take : (a.any fun p => decide (p.f0 = b[j].f0) && decide (p.f1 = b[j].f1)) = false → newL a (b.drop j) = newC b[j] :: newL a (b.drop (j + 1)) := fun h => by
      rw [List.drop_eq_getElem_cons hlt]
      unfold newL
      rw [List.filter_cons, if_pos (by rw [h]; simp), List.map_cons]
    have goOn : (a.any fun p => decide (p.f0 = b[j].f0) && decide (p.f1 = b[j].f1)) = false → Ev (fun k => impl_MapBetween.l1 k a (acc ++ [newC b[j]]) b (b.length : Int) ((j + 1 : Nat) : Int)) (betFin (acc ++ newL a (b.drop j))) := fun h => by
      have h2 := ih (j + 1) (acc ++ [newC b[j]]) (by omega) (by simp; omega) (by rw [List.append_assoc, List.singleton_append, ← take h]; exact hu)
      rw [List.append_assoc, List.singleton_append, ← take h] at h2
      exact h2
    rcases has_key ha (by omega) b[j].f0 with ⟨c, hc, h0, h1, h2⟩ | ⟨c, hc, hn⟩
    · obtain ⟨c, rfl⟩ := Int.eq_ofNat_of_zero_le h0
      rw [Int.toNat_natCast] at h2
      have hcl : c < a.length := by omega
      rw [getI_Map a c hcl] at h2
      by_cases hv : a[c].f1 = b[j].f1
      · have hany : (a.any fun p => decide (p.f0 = b[j].f0) && decide (p.f1 = b[j].f1)) = true := by
          rw [List.any_eq_true]
          exact ⟨a[c], List.getElem_mem hcl, by rw [decide_eq_true h2, decide_eq_true hv]; rfl⟩
        rw [skip hany] at hu ⊢
        refine Ev.step (fun k => ?_) (ih (j + 1) acc (by omega) (by omega) hu)
        show impl_MapBetween.l1 (k + 1) _ _ _ _ _ = impl_MapBetween.l1 k _ _ _ _ _
        rw [impl_MapBetween.l1, if_pos (by omega), if_pos (by omega), if_pos (by omega), rdI_Pair b j hlt, hc, Option.bind_some, if_pos rfl, if_pos (show (0 : Int) ≤ (c : Int) by omega), if_pos (show (c : Int) < (a.length : Int) by omega), rdI_Pair a c hcl, if_pos (tl_eq.2 hv), ew.out]
      · have hany : (a.any fun p => decide (p.f0 = b[j].f0) && decide (p.f1 = b[j].f1)) = false := by
          rw [List.any_eq_false]
          intro p hp e
          simp only [Bool.and_eq_true, decide_eq_true_eq] at e
          obtain ⟨i, hi, rfl⟩ := List.mem_iff_getElem.1 hp
          have : i = c := by
            rcases Nat.lt_trichotomy i c with hlt2 | he | hlt2
            · have := ha i c hlt2 hcl
              rw [getI_Map a i hi, getI_Map a c hcl, e.1, h2] at this
              exact absurd this (bl_irrefl _)
            · exact he
            · have := ha c i hlt2 hi
              rw [getI_Map a i hi, getI_Map a c hcl, e.1, h2] at this
              exact absurd this (bl_irrefl _)
          subst this
          exact hv e.2
        refine Ev.step (fun k => ?_) (goOn hany)
        show impl_MapBetween.l1 (k + 1) _ _ _ _ _ = impl_MapBetween.l1 k _ _ _ _ _
        rw [impl_MapBetween.l1, if_pos (by omega), if_pos (by omega), if_pos (by omega), rdI_Pair b j hlt, hc, Option.bind_some, if_pos rfl, if_pos (show (0 : Int) ≤ (c : Int) by omega), if_pos (show (c : Int) < (a.length : Int) by omega), rdI_Pair a c hcl, if_neg (fun h => hv (tl_eq.1 h)), if_pos (by omega), ew.out]
        rfl
    · have hany : (a.any fun p => decide (p.f0 = b[j].f0) && decide (p.f1 = b[j].f1)) = false := by
        rw [List.any_eq_false]
        intro p hp e
        simp only [Bool.and_eq_true, decide_eq_true_eq] at e
        exact hn p hp e.1
      refine Ev.step (fun k => ?_) (goOn hany)
      show impl_MapBetween.l1 (k + 1) _ _ _ _ _ = impl_MapBetween.l1 k _ _ _ _ _
      rw [impl_MapBetween.l1, if_pos (by omega), if_pos (by omega), if_pos (by omega), rdI_Pair b j hlt, hc, Option.bind_some, if_neg (show ¬ (false = true) by decide), if_pos (by omega), ew.out]
      rfl
theorem impl_MapBetween.ev0 (a b : List S59) (ha : srtMap a) (hb : srtMap b) (hal : a.length ≤ 500000) (hbl : b.length ≤ 500000) (d : Nat) : ∀ (i : Nat) (acc : List S109), i + d = a.length → acc.length ≤ i → impl_Change.uniq (acc ++ goneL b (a.drop i) ++ newL a b) = true →
    Ev (fun k => impl_MapBetween.l0 k a b acc a (a.length : Int) (i : Int)) (betFin (acc ++ goneL b (a.drop i) ++ newL a b)) := by
  induction d with
  | zero =>
    intro i acc hi hacc hu
    have e : goneL b (a.drop i) = [] := by rw [List.drop_eq_nil_of_le (by omega)]; rfl
    rw [e, List.append_nil] at hu ⊢
    have h1 := impl_MapBetween.ev1 a b ha (by omega) (by omega) b.length 0 acc (by omega) (by omega) (by rw [List.drop_zero]; exact hu)
    rw [List.drop_zero] at h1
    refine Ev.step (fun k => ?_) h1
    show impl_MapBetween.l0 (k + 1) _ _ _ _ _ _ = impl_MapBetween.l1 k _ _ _ _ _
    rw [impl_MapBetween.l0, if_neg (by omega)]
    rfl
  | succ d ih =>
    intro i acc hi hacc hu
    have hlt : i < a.length := by omega
    have ew : Hd (wrap64 ((i : Int) + 1) = ((i + 1 : Nat) : Int)) := Hd.mk <| by rw [w64 (by omega) (by omega)]; rfl
    rcases has_key hb (by omega) a[i].f0 with ⟨c, hc, h0, h1, h2⟩ | ⟨c, hc, hn⟩
    · obtain ⟨c, rfl⟩ := Int.eq_ofNat_of_zero_le h0
      rw [Int.toNat_natCast] at h2
      have hcl : c < b.length := by omega
      rw [getI_Map b c hcl] at h2
      have hany : (b.any fun q => decide (q.f0 = a[i].f0)) = true := by
        rw [List.any_eq_true]
        exact ⟨b[c], List.getElem_mem hcl, decide_eq_true h2⟩
      have skip : goneL b (a.drop i) = goneL b (a.drop (i + 1)) := by
        rw [List.drop_eq_getElem_cons hlt]
        unfold goneL
        rw [List.filter_cons, if_neg (by rw [hany]; simp)]
      rw [skip] at hu ⊢
      refine Ev.step (fun k => ?_) (ih (i + 1) acc (by omega) (by omega) hu)
      show impl_MapBetween.l0 (k + 1) _ _ _ _ _ _ = impl_MapBetween.l0 k _ _ _ _ _ _
      rw [impl_MapBetween.l0, if_pos (by omega), if_pos (by omega), if_pos (by omega), rdI_Pair a i hlt, hc, Option.bind_some, if_pos rfl, ew.out]
    · have hany : (b.any fun q => decide (q.f0 = a[i].f0)) = false := by
        rw [List.any_eq_false]
        exact fun q hq e => hn q hq (of_decide_eq_true e)
      have take : goneL b (a.drop i) = goneC a[i] :: goneL b (a.drop (i + 1)) := by
        rw [List.drop_eq_getElem_cons hlt]
        unfold goneL
        rw [List.filter_cons, if_pos (by rw [hany]; simp), List.map_cons]
      have e : acc ++ goneL b (a.drop i) ++ newL a b = acc ++ [goneC a[i]] ++ goneL b (a.drop (i + 1)) ++ newL a b := by
        rw [take, List.append_assoc acc [goneC a[i]], List.singleton_append]
      rw [e] at hu ⊢
      refine Ev.step (fun k => ?_) (ih (i + 1) (acc ++ [goneC a[i]]) (by omega) (by simp; omega) hu)
      show impl_MapBetween.l0 (k + 1) _ _ _ _ _ _ = impl_MapBetween.l0 k _ _ _ _ _ _
      rw [impl_MapBetween.l0, if_pos (by omega), if_pos (by omega), if_pos (by omega), rdI_Pair a i hlt, hc, Option.bind_some, if_neg (show ¬ (false = true) by decide), if_pos (by omega), ew.out]
      rfl
theorem impl_MapBetween.ev (a b : List S59) (hal : a.length ≤ 1048576) (hbl : b.length ≤ 1048576) : Ev (fun k => impl_MapBetween.f k a b) (mapBetOf a b) := by
  obtain ⟨K0, h0⟩ := impl_MapOk.ev a hal
  obtain ⟨K1, h1⟩ := impl_MapOk.ev b hbl
  dsimp only at h0 h1
  unfold mapBetOf
  by_cases hca : mapCOf a = true
  · by_cases hcb : mapCOf b = true
    · obtain ⟨ha, hla, _⟩ := mapC_srt hca
      obtain ⟨hb, hlb, _⟩ := mapC_srt hcb
      have pa := (srtMap_iff a).1 ha
      have pb := (srtMap_iff b).1 hb
      have hu := chg_uniq pa pb (by omega)
      obtain ⟨K2, h2⟩ := impl_MapBetween.ev0 a b ha hb (by omega) (by omega) a.length 0 [] (by omega) (by simp) (by rw [List.drop_zero, List.nil_append]; exact hu)
      rw [List.drop_zero, List.nil_append] at h2
      dsimp only at h2
      refine ⟨K0 + K1 + K2 + 1, fun k hk => ?_⟩
      have h0' := h0 k (by omega)
      have h1' := h1 k (by omega)
      obtain ⟨k, rfl⟩ : ∃ m, k = m + 1 := ⟨k - 1, by omega⟩
      show impl_MapBetween.f (k + 1) _ _ = _
      unfold impl_MapBetween.f
      rw [h0', Option.bind_some, if_pos hca, h1', Option.bind_some, hcb, impl_MapBetween.j0, if_neg (by simp)]
      refine (h2 k (by omega)).trans ?_
      show some (betFin (chg a b)) = _
      unfold betFin
      rw [chg_sorted pa pb, mrg_len pa pb]
      by_cases hc : (chg a b).length ≤ 60
      · rw [if_pos hc, if_pos ⟨hca, rfl, hc⟩]
      · rw [if_neg hc, if_neg (fun h => hc h.2.2)]
    · refine ⟨K0 + K1 + 1, fun k hk => ?_⟩
      have h0' := h0 k (by omega)
      have h1' := h1 k (by omega)
      obtain ⟨k, rfl⟩ : ∃ m, k = m + 1 := ⟨k - 1, by omega⟩
      show impl_MapBetween.f (k + 1) _ _ = _
      unfold impl_MapBetween.f
      rw [h0', Option.bind_some, if_pos hca, h1', Option.bind_some, impl_MapBetween.j0, if_pos (by simp [hcb]), if_neg (fun h => hcb h.2.1)]
  · refine ⟨K0 + 1, fun k hk => ?_⟩
    have h0' := h0 k (by omega)
    obtain ⟨k, rfl⟩ : ∃ m, k = m + 1 := ⟨k - 1, by omega⟩
    show impl_MapBetween.f (k + 1) _ _ = _
    unfold impl_MapBetween.f
    rw [h0', Option.bind_some, if_neg hca, impl_MapBetween.j0, if_pos rfl, if_neg (fun h => hca h.1)]
theorem impl_MapBatch.ev0 (l : List S59) (hs : l.length ≤ 1048576) (v : Int) (d : Nat) : ∀ (i : Nat), i + d = l.length →
    Ev (fun k => impl_MapBatch.l0 k l l (l.length : Int) (i : Int) v ((l.take i).map chOf)) (mapBatchOf l v) := by
  induction d with
  | zero =>
    intro i hi
    obtain ⟨K0, h0⟩ := impl_MapOk.ev l hs
    obtain ⟨K1, h1⟩ := impl_BatchOk.ev v (l.map chOf) (by simpa using hs)
    dsimp only at h0 h1
    refine ⟨K0 + K1 + 1, fun k hk => ?_⟩
    obtain ⟨k, rfl⟩ : ∃ m, k = m + 1 := ⟨k - 1, by omega⟩
    show impl_MapBatch.l0 (k + 1) _ _ _ _ _ _ = _
    rw [impl_MapBatch.l0, if_neg (by omega), List.take_of_length_le (by omega), h0 k (by omega), Option.bind_some, h1 k (by omega), Option.bind_some, batchOf_map]
    unfold mapBatchOf
    by_cases hm : mapCOf l = true
    · by_cases hv : 0 ≤ v ∧ v ≤ 100000
      · rw [if_pos hm, if_pos (show (decide (0 ≤ v ∧ v ≤ 100000) && mapCOf l) = true by rw [hm, decide_eq_true hv]; rfl), if_pos (show mapCOf l = true ∧ 0 ≤ v ∧ v ≤ 100000 from ⟨hm, hv⟩)]
      · rw [if_pos hm, if_neg (show ¬ (decide (0 ≤ v ∧ v ≤ 100000) && mapCOf l) = true by rw [decide_eq_false hv]; simp), if_neg (show ¬ (mapCOf l = true ∧ 0 ≤ v ∧ v ≤ 100000) from fun h => hv h.2)]
    · rw [if_neg hm, if_neg (fun h => hm h.1)]
  | succ d ih =>
    intro i hi
    have hlt : i < l.length := by omega
    have ew : Hd (wrap64 ((i : Int) + 1) = ((i + 1 : Nat) : Int)) := Hd.mk <| by rw [w64 (by omega) (by omega)]; rfl
    refine Ev.step (fun k => ?_) (ih (i + 1) (by omega))
    show impl_MapBatch.l0 (k + 1) _ _ _ _ _ _ = impl_MapBatch.l0 k _ _ _ _ _ _
    rw [impl_MapBatch.l0, if_pos (by omega), if_pos (by omega), if_pos (by omega), if_pos (by simp; omega), rdI_Pair l i hlt, ew.out, List.take_succ_eq_append_getElem hlt, List.map_append]
    rfl
theorem impl_MapBatch.ev (l : List S59) (hs : l.length ≤ 1048576) (v : Int) : Ev (fun k => impl_MapBatch.f k l v) (mapBatchOf l v) := by
  obtain ⟨K, h⟩ := impl_MapBatch.ev0 l hs v l.length 0 (by omega)
  exact ⟨K, fun k hk => h k hk⟩
/-- What the look-up answers. -/
def mapGetOf (l : List S59) (a : ByteArray) : ByteArray × Bool := if mapCOf l = true ∧ 0 ≤ posMap l a l.length 0 then ((l.getD (posMap l a l.length 0).toNat z59).f1, true) else ((⟨#[]⟩ : ByteArray), false)
theorem impl_MapGet.ev (l : List S59) (a : ByteArray) (hs : l.length ≤ 1048576) : Ev (fun k => impl_MapGet.f k l a) (mapGetOf l a) := by
  obtain ⟨K0, h0⟩ := impl_MapOk.ev l hs
  dsimp only at h0
  refine ⟨K0, fun k hk => ?_⟩
  show impl_MapGet.f k _ _ = _
  unfold impl_MapGet.f mapGetOf
  rw [h0 k hk, Option.bind_some]
  by_cases hm : mapCOf l = true
  · obtain ⟨hsr, hml, _⟩ := mapC_srt hm
    rw [if_pos hm]
    rcases posMap_cases l a l.length 0 with ⟨p, h1, h2, h3, h4⟩ | ⟨h1, h2⟩
    · rw [impl_pairNo.found hsr (by omega) a p (by omega) h3, Option.bind_some, if_pos rfl, if_pos (show (0 : Int) ≤ (p : Int) by omega), if_pos (show (p : Int) < (l.length : Int) by omega), if_pos ⟨hm, by omega⟩, h4]
      rfl
    · obtain ⟨c, _, hc, _⟩ := impl_pairNo.none_ hsr (by omega) a (fun p hp => h1 p (by omega) (by omega))
      rw [hc, Option.bind_some, if_neg (by simp), if_neg (fun h => by omega)]
  · rw [if_neg hm, if_neg (fun h => hm h.1)]
theorem mapGet_mem {b : List S59} (hb : mapCOf b = true) (i : Nat) (hi : i < b.length) : mapGetOf b b[i].f0 = (b[i].f1, true) := by
  obtain ⟨hs, _, _⟩ := mapC_srt hb
  unfold mapGetOf
  rcases posMap_cases b b[i].f0 b.length 0 with ⟨p, h1, h2, h3, h4⟩ | ⟨h1, h2⟩
  · have hp : p < b.length := by omega
    rw [if_pos ⟨hb, by omega⟩, h4, Int.toNat_natCast, getI_Map b p hp]
    rw [getI_Map b p hp] at h3
    rw [srt_inj ((srtMap_iff b).1 hs) _ (List.getElem_mem hp) _ (List.getElem_mem hi) h3]
  · exact absurd (getI_Map b i hi ▸ rfl) (h1 i (by omega) (by omega))
theorem laws_FnMaps.ev0 (a b : List S59) (o : List S109) (hb : mapCOf b = true) (hl : b.length ≤ 1048576) (ha : a.length ≤ 1048576) (hol : o.length ≤ a.length + b.length) (d : Nat) : ∀ i : Nat, i + d = b.length → Ev (fun k => laws_FnMaps.l0 k a b o b (i : Int)) true := by
  induction d with
  | zero =>
    intro i hi
    refine ev_now fun k => ?_
    show laws_FnMaps.l0 (k + 1) _ _ _ _ _ = _
    rw [laws_FnMaps.l0, if_neg (by omega), w64 (by omega) (by omega), decide_eq_true (by omega)]
  | succ d ih =>
    intro i hi
    have hlt : i < b.length := by omega
    have ew : Hd (wrap64 ((i : Int) + 1) = ((i + 1 : Nat) : Int)) := Hd.mk <| by rw [w64 (by omega) (by omega)]; rfl
    obtain ⟨K1, h1⟩ := impl_MapGet.ev b b[i].f0 hl
    obtain ⟨K2, h2⟩ := ih (i + 1) (by omega)
    dsimp only at h1 h2
    refine ⟨K1 + K2 + 1, fun k hk => ?_⟩
    obtain ⟨k, rfl⟩ : ∃ m, k = m + 1 := ⟨k - 1, by omega⟩
    show laws_FnMaps.l0 (k + 1) _ _ _ _ _ = _
    rw [laws_FnMaps.l0, if_pos (by omega), if_pos (by omega), rdI_Pair b i hlt, h1 k (by omega), Option.bind_some, mapGet_mem hb i hlt]
    dsimp only
    rw [if_pos rfl, if_pos rfl, ew.out]
    exact h2 k (by omega)
theorem FnMaps : ∀ (l0 : List Int), (l0.length ≤ maxLen ∧ ∀ y ∈ l0, (Lit.int .u8 y).wf = true) → ∃ k, laws_FnMaps.f k l0 = some true := by
  intro l _
  by_cases hbig : (l.length : Int) > 1048576
  · refine ⟨0, ?_⟩
    unfold laws_FnMaps.f laws_big.f
    rw [Option.bind_some, if_pos (decide_eq_true hbig)]
  obtain ⟨a, b, ⟨K0, h0⟩, ha, hb⟩ := spec_DrawRightMaps.ev l (by omega)
  have hca := rightM_ok ha (by omega)
  have hcb := rightM_ok hb (by omega)
  have hal := ha.2.1
  have hbl := hb.2.1
  obtain ⟨hbat, hml⟩ := batch_mrg ha hb
  have hcn : mapCOf ([] : List S59) = true := by decide
  obtain ⟨K1, h1⟩ := impl_MapBetween.ev a b (by omega) (by omega)
  obtain ⟨K2, h2⟩ := impl_MapDo.ev a (by omega) 1 (mrg a b) (by omega)
  obtain ⟨K3, h3⟩ := impl_MapBetween.ev a a (by omega) (by omega)
  obtain ⟨K4, h4⟩ := impl_MapBatch.ev b (by omega) 7
  obtain ⟨K5, h5⟩ := impl_MapDo.ev [] (by simp) 7 (b.map chOf) (by simp; omega)
  obtain ⟨K6, h6⟩ := laws_sameMap.ev b (by omega)
  obtain ⟨K7, h7⟩ := laws_FnMaps.ev0 a b (mrg a b) hcb (by omega) (by omega) hml b.length 0 (by omega)
  dsimp only at h0 h1 h2 h3 h4 h5 h6 h7
  have e1 : mapBetOf a b = (mrg a b, true) := by
    unfold mapBetOf
    rw [if_pos ⟨hca, hcb, by omega⟩]
  have e2 : mapDoOf a 1 (mrg a b) = (b, true) := by
    unfold mapDoOf
    rw [if_pos ⟨hca, hbat⟩, doAll_mrg ha.1 hb.1]
    unfold mapEnd
    rw [if_pos hcb]
  have e3 : mapBetOf a a = ([], true) := by
    unfold mapBetOf
    rw [mrg_self ha.1, if_pos ⟨hca, hca, by simp⟩]
  have e4 : mapBatchOf b 7 = (7, b.map chOf, true) := by
    unfold mapBatchOf
    rw [if_pos ⟨hcb, by omega, by omega⟩]
  have e5 : mapDoOf [] 7 (b.map chOf) = (b, true) := by
    unfold mapDoOf
    rw [if_pos ⟨hcn, by rw [batchOf_map, hcb, decide_eq_true (show (0 : Int) ≤ 7 ∧ (7 : Int) ≤ 100000 by omega)]; rfl⟩, doAll_all hb.1]
    unfold mapEnd
    rw [if_pos hcb]
  refine ⟨K0 + K1 + K2 + K3 + K4 + K5 + K6 + K7 + 1, ?_⟩
  unfold laws_FnMaps.f laws_big.f
  rw [Option.bind_some, if_neg (by rw [decide_eq_false hbig]; simp), h0 _ (by omega), Option.bind_some]
  dsimp only
  rw [h1 _ (by omega), e1, Option.bind_some]
  dsimp only
  rw [h2 _ (by omega), e2, Option.bind_some]
  dsimp only
  rw [h3 _ (by omega), e3, Option.bind_some]
  dsimp only
  rw [h4 _ (by omega), e4, Option.bind_some]
  dsimp only
  rw [h5 _ (by omega), e5, Option.bind_some]
  dsimp only
  rw [if_pos rfl, if_pos rfl, if_pos rfl, if_pos rfl, if_pos rfl, if_pos (by simp), h6 _ (by omega), Option.bind_some, if_pos rfl, Option.bind_some, if_pos rfl, laws_FnMaps.j0, if_neg (by decide)]
  exact h7 _ (by omega)

end Go.Proofs.Ytpjhbhjmaggheaa.Pure
