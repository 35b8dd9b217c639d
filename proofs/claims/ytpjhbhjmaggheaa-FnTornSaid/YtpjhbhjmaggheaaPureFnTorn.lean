/- The law FnTorn, over numbers and lists: for every input that the statement speaks of the printed function answers true; conditions: those of the printed statement. -/
import Derived.Test.YtpjhbhjmaggheaaQFnTornx1
import Derived.Test.YtpjhbhjmaggheaaQFnTornx2
import Derived.Test.YtpjhbhjmaggheaaQFnTornx3
import Derived.Test.YtpjhbhjmaggheaaQFnTornx4
import Derived.Test.YtpjhbhjmaggheaaQFnTornx5
import Derived.Test.YtpjhbhjmaggheaaQFnTornx6
import Derived.Test.YtpjhbhjmaggheaaQFnTornx7
import Derived.Test.YtpjhbhjmaggheaaQFnTornx8
import Derived.Test.YtpjhbhjmaggheaaQFnTornx9
import Derived.Test.YtpjhbhjmaggheaaQFnTornx10
import Derived.Test.YtpjhbhjmaggheaaQFnTornx11
import Derived.Laws.BitsAllLaws
import Derived.Sort.Walk0
import Derived.Lib.Bytealg
namespace Go.Proofs.Ytpjhbhjmaggheaa.Pure
open Go.RowKit Go.Proofs.Ytpjhbhjmaggheaa.QFnTorn Go.Proofs.YtpjhbhjmaggheaaW.PrintWords Go.Proofs.YtpjhbhjmaggheaaW.PrintLast Go.Proofs.YtpjhbhjmaggheaaW.PrintMore
set_option linter.unusedVariables false
set_option linter.unusedSimpArgs false

/-! ### strings as lists of bytes -/
def mk (l : List UInt8) : ByteArray := ⟨l.toArray⟩
def nm (l : List UInt8) : List Int := l.map fun b => (b.toNat : Int)
theorem mk_of (s : ByteArray) : ∃ l, s = mk l := ⟨s.data.toList, rfl⟩
theorem mk_data (l : List UInt8) : (mk l).data.toList = l := rfl
theorem mk_toList (l : List UInt8) : (mk l).toList = l := by rw [ByteArray.toList_eq]; rfl
theorem mk_size (l : List UInt8) : (mk l).size = l.length := List.size_toArray
theorem mk_inj {a b : List UInt8} (h : mk a = mk b) : a = b := by rw [← mk_data a, h]; rfl
theorem mk_append (a b : List UInt8) : mk a ++ mk b = mk (a ++ b) := by
  apply ByteArray.ext
  rw [ByteArray.data_append]
  simp [mk]
theorem mk_extract (l : List UInt8) (i j : Nat) : (mk l).extract i j = mk ((l.drop i).take (j - i)) := by
  apply ByteArray.ext
  rw [ByteArray.data_extract]
  apply Array.ext'
  simp [mk, List.take_drop]
theorem mk_nil : (⟨#[]⟩ : ByteArray) = mk [] := rfl
theorem nm_append (a b : List UInt8) : nm (a ++ b) = nm a ++ nm b := by simp [nm]
theorem nm_length (a : List UInt8) : (nm a).length = a.length := by simp [nm]
theorem nm_nil : ([] : List Int) = nm [] := rfl
theorem strOf_nm (l : List UInt8) : strOfNums (nm l) = mk l := by
  unfold strOfNums nm mk
  rw [List.map_map]
  congr 1
  have : ∀ l : List UInt8, List.map ((fun n : Int => UInt8.ofNat n.toNat) ∘ fun b : UInt8 => (b.toNat : Int)) l = l := by
    intro l
    induction l with
    | nil => rfl
    | cons a l ih => rw [List.map_cons, ih]; simp
  rw [this]
theorem bt_mk (l : List UInt8) (n : Nat) (h : n < l.length) : bt (mk l) (n : Int) = ((l[n]).toNat : Int) := by
  unfold bt
  rw [dif_pos (show (n : Int).toNat < (mk l).size by rw [mk_size]; omega)]
  rfl
/-- A fact that omega doesn't look into. -/
structure Hd (p : Prop) : Prop where
  mk :: (out : p)
theorem w64 {x : Int} (h0 : -9223372036854775808 ≤ x) (h1 : x ≤ 9223372036854775807) : wrap64 x = x := by
  unfold wrap64
  omega
theorem nm_u8 (n : Nat) (h : n < 256) : nm [UInt8.ofNat n] = [(n : Int)] := by
  simp [nm]
  omega
theorem tmod_nat (x d : Nat) : Int.tmod (x : Int) (d : Int) = ((x % d : Nat) : Int) := by
  rw [Int.tmod_eq_emod_of_nonneg (by omega)]
  exact (Int.natCast_emod x d).symm
theorem tdiv_nat (x d : Nat) : Int.tdiv (x : Int) (d : Int) = ((x / d : Nat) : Int) := by
  rw [Int.tdiv_eq_ediv_of_nonneg (by omega)]
  exact (Int.natCast_ediv x d).symm
theorem drop_cons (l : List UInt8) (i : Nat) (h : i < l.length) : l.drop i = l[i] :: l.drop (i + 1) := List.drop_eq_getElem_cons h
/-! ### the order of strings -/
theorem bless (a b : List UInt8) : Op.bytesLess a b = decide (a < b) := Proofs.bytesLess_eq a b
theorem cmpB_lt : ∀ a b : List UInt8, Lib.compareBytes a b < 0 ↔ a < b
  | [], [] => by simp [Lib.compareBytes]
  | [], _ :: _ => by simp [Lib.compareBytes]
  | _ :: _, [] => by simp [Lib.compareBytes]
  | a :: xs, b :: ys => by
    rw [List.cons_lt_cons_iff, ← cmpB_lt xs ys, Lib.compareBytes]
    by_cases h : a < b
    · simp [h]
    · by_cases h2 : b < a
      · have : a ≠ b := by rintro rfl; exact h h2
        simp [h, h2, this]
      · have : a = b := UInt8.le_antisymm (UInt8.not_lt.1 h2) (UInt8.not_lt.1 h)
        simp [this]
theorem cmpB_eq : ∀ a b : List UInt8, Lib.compareBytes a b = 0 ↔ a = b
  | [], [] => by simp [Lib.compareBytes]
  | [], _ :: _ => by simp [Lib.compareBytes]
  | _ :: _, [] => by simp [Lib.compareBytes]
  | a :: xs, b :: ys => by
    rw [List.cons_eq_cons, ← cmpB_eq xs ys, Lib.compareBytes]
    by_cases h : a < b
    · have : a ≠ b := by rintro rfl; exact UInt8.lt_irrefl _ h
      simp [h, this]
    · by_cases h2 : b < a
      · have : a ≠ b := by rintro rfl; exact h h2
        simp [h, h2, this]
      · have : a = b := UInt8.le_antisymm (UInt8.not_lt.1 h2) (UInt8.not_lt.1 h)
        simp [this]
theorem bl_trans {a b c : List UInt8} (h1 : a < b) (h2 : b < c) : a < c := List.lt_trans h1 h2
theorem bl_irrefl (a : List UInt8) : ¬ a < a := List.lt_irrefl a
theorem bl_tri (a b : List UInt8) : a < b ∨ a = b ∨ b < a := by
  by_cases h : a < b
  · exact Or.inl h
  · by_cases h2 : b < a
    · exact Or.inr (Or.inr h2)
    · exact Or.inr (Or.inl (List.le_antisymm (List.not_lt.1 h2) (List.not_lt.1 h)))
def bl (s : ByteArray) : List UInt8 := s.data.toList
theorem mk_bl (s : ByteArray) : mk (bl s) = s := rfl
theorem bl_len (s : ByteArray) : (bl s).length = s.size := rfl
theorem bl_inj {a b : ByteArray} (h : bl a = bl b) : a = b := by rw [← mk_bl a, h, mk_bl]
theorem bl_toList (a : ByteArray) : a.toList = bl a := ByteArray.toList_eq a
/-- C holds at i, i + 1, .., d of them. -/
def allF (C : Nat → Bool) : Nat → Nat → Bool
  | 0, _ => true
  | d + 1, i => C i && allF C d (i + 1)
theorem allF_congr {C D : Nat → Bool} (d : Nat) : ∀ i, (∀ j, i ≤ j → j < i + d → C j = D j) → allF C d i = allF D d i := by
  induction d with
  | zero => intro i h; rfl
  | succ d ih =>
    intro i h
    simp only [allF]
    rw [h i (by omega) (by omega), ih (i + 1) (fun j h1 h2 => h j (by omega) (by omega))]
theorem allF_true {C : Nat → Bool} (d : Nat) : ∀ i, allF C d i = true ↔ ∀ j, i ≤ j → j < i + d → C j = true := by
  induction d with
  | zero => intro i; simp only [allF, true_iff]; intro j h1 h2; omega
  | succ d ih =>
    intro i
    simp only [allF, Bool.and_eq_true, ih]
    constructor
    · rintro ⟨h1, h2⟩ j h3 h4
      by_cases e : j = i
      · rw [e]; exact h1
      · exact h2 j (by omega) (by omega)
    · intro h
      exact ⟨h i (by omega) (by omega), fun j h1 h2 => h j (by omega) (by omega)⟩
theorem ev_now {α : Type} {g : Nat → Option α} {r : α} (h : ∀ k, g (k + 1) = some r) : Ev g r :=
  ⟨1, fun k hk => by obtain ⟨m, rfl⟩ : ∃ m, k = m + 1 := ⟨k - 1, by omega⟩; exact h m⟩
/-- Place i of the list: its name's and its text's sizes, and its name above the one ahead. -/
def diskC (l : List S71) (i : Nat) : Bool :=
  decide (1 ≤ ((l.getD i z71).f0.size : Int) ∧ ((l.getD i z71).f0.size : Int) ≤ 12) && (decide (((l.getD i z71).f1.size : Int) ≤ 20000) && (decide (i = 0) || Op.bytesLess (l.getD (i - 1) z71).f0.toList (l.getD i z71).f0.toList))
def diskCOf (l : List S71) : Bool := decide ((l.length : Int) ≤ 30) && allF (diskC l) l.length 0
/-- The names rise. -/
def srtDisk (l : List S71) : Prop := ∀ i j, i < j → j < l.length → bl (l.getD i z71).f0 < bl (l.getD j z71).f0
theorem diskC_srt {l : List S71} (h : diskCOf l = true) : srtDisk l ∧ (l.length : Int) ≤ 30 ∧ ∀ i, i < l.length → (1 ≤ (l.getD i z71).f0.size ∧ (l.getD i z71).f0.size ≤ 12) ∧ (l.getD i z71).f1.size ≤ 20000 := by
  unfold diskCOf at h
  simp only [Bool.and_eq_true, decide_eq_true_eq] at h
  have hC : ∀ i, i < l.length → diskC l i = true := fun i hi => (allF_true _ _).1 h.2 i (by omega) (by omega)
  have hadj : ∀ i, 0 < i → i < l.length → bl (l.getD (i - 1) z71).f0 < bl (l.getD i z71).f0 := fun i h0 hi => by
    have := hC i hi
    unfold diskC at this
    simp only [Bool.and_eq_true, Bool.or_eq_true, decide_eq_true_eq] at this
    have h2 := this.2.2.resolve_left (by omega)
    rw [bless, decide_eq_true_eq, ByteArray.toList_eq, ByteArray.toList_eq] at h2
    exact h2
  refine ⟨fun i j hij hj => ?_, h.1, fun i hi => ?_⟩
  · induction j with
    | zero => omega
    | succ j ih =>
      have hA := hadj (j + 1) (by omega) hj
      rw [Nat.add_sub_cancel] at hA
      by_cases e : i = j
      · rw [e]; exact hA
      · exact bl_trans (ih (by omega) (by omega)) hA
  · have := hC i hi
    unfold diskC at this
    simp only [Bool.and_eq_true, decide_eq_true_eq] at this
    omega
/-! ### parts of lists -/
theorem filter_take {α : Type} (p : α → Bool) (l : List α) (c : Nat) (h1 : ∀ t (h : t < l.length), t < c → p l[t] = true) (h2 : ∀ t (h : t < l.length), c ≤ t → p l[t] = false) : l.filter p = l.take c := by
  conv => lhs; rw [← List.take_append_drop c l]
  rw [List.filter_append, List.filter_eq_self.2, List.filter_eq_nil_iff.2, List.append_nil]
  · intro a ha
    obtain ⟨i, hi, rfl⟩ := List.mem_iff_getElem.1 ha
    rw [List.getElem_drop]
    rw [h2 _ _ (by omega)]
    simp
  · intro a ha
    obtain ⟨i, hi, rfl⟩ := List.mem_iff_getElem.1 ha
    rw [List.getElem_take]
    rw [List.length_take] at hi
    exact h1 _ _ (by omega)
theorem filter_drop {α : Type} (p : α → Bool) (l : List α) (c : Nat) (h1 : ∀ t (h : t < l.length), t < c → p l[t] = false) (h2 : ∀ t (h : t < l.length), c ≤ t → p l[t] = true) : l.filter p = l.drop c := by
  conv => lhs; rw [← List.take_append_drop c l]
  rw [List.filter_append, List.filter_eq_nil_iff.2, List.filter_eq_self.2, List.nil_append]
  · intro a ha
    obtain ⟨i, hi, rfl⟩ := List.mem_iff_getElem.1 ha
    rw [List.getElem_drop]
    exact h2 _ _ (by omega)
  · intro a ha
    obtain ⟨i, hi, rfl⟩ := List.mem_iff_getElem.1 ha
    rw [List.getElem_take]
    rw [List.length_take] at hi
    rw [h1 _ _ (by omega)]
    simp
theorem filter_two {α : Type} (p q : α → Bool) (h : ∀ y, p y = true → q y = true → False) : ∀ l : List α, (l.filter p).length + (l.filter q).length ≤ l.length
  | [] => by simp
  | a :: l => by
    have := filter_two p q h l
    rw [List.filter_cons, List.filter_cons]
    by_cases hp : p a = true
    · by_cases hq : q a = true
      · exact absurd hq (fun hq => h a hp hq)
      · rw [if_pos hp, if_neg hq]
        simp only [List.length_cons]
        omega
    · rw [if_neg hp]
      by_cases hq : q a = true
      · rw [if_pos hq]
        simp only [List.length_cons]
        omega
      · rw [if_neg hq]
        simp only [List.length_cons]
        omega
/-- Two rising lists with the same members are one. -/
theorem rise_ext {α : Type} (lt : α → α → Prop) (irr : ∀ a, ¬ lt a a) (tr : ∀ a b c, lt a b → lt b c → lt a c) : ∀ {l m : List α}, l.Pairwise lt → m.Pairwise lt → (∀ x, x ∈ l ↔ x ∈ m) → l = m
  | [], [], _, _, _ => rfl
  | [], b :: m, _, _, h => absurd ((h b).2 List.mem_cons_self) (by simp)
  | a :: l, [], _, _, h => absurd ((h a).1 List.mem_cons_self) (by simp)
  | a :: l, b :: m, hl, hm, h => by
    rw [List.pairwise_cons] at hl hm
    have e : a = b := by
      rcases List.mem_cons.1 ((h a).1 List.mem_cons_self) with e | e
      · exact e
      · rcases List.mem_cons.1 ((h b).2 List.mem_cons_self) with e2 | e2
        · exact e2.symm
        · exact absurd (tr _ _ _ (hl.1 _ e2) (hm.1 _ e)) (irr _)
    subst e
    rw [rise_ext lt irr tr hl.2 hm.2 fun x => ⟨fun hx => ?_, fun hx => ?_⟩]
    · rcases List.mem_cons.1 ((h x).1 (List.mem_cons_of_mem _ hx)) with e | e
      · rw [e] at hx
        exact absurd (hl.1 _ hx) (irr _)
      · exact e
    · rcases List.mem_cons.1 ((h x).2 (List.mem_cons_of_mem _ hx)) with e | e
      · rw [e] at hx
        exact absurd (hm.1 _ hx) (irr _)
      · exact e
/-! ### a name put in, a name taken out: Disk -/
def ltDisk (x y : S71) : Prop := bl x.f0 < bl y.f0
theorem srtDisk_iff (l : List S71) : srtDisk l ↔ l.Pairwise ltDisk := by
  rw [List.pairwise_iff_getElem]
  have e : ∀ i (h : i < l.length), l.getD i z71 = l[i] := fun i h => by simp [List.getD_eq_getElem?_getD, List.getElem?_eq_getElem h]
  constructor
  · intro h i j hi hj hij
    have := h i j hij hj
    rw [e i hi, e j hj] at this
    exact this
  · intro h i j hij hj
    rw [e i (by omega), e j hj]
    exact h i j (by omega) hj hij
theorem ltDisk_irr (a : S71) : ¬ ltDisk a a := bl_irrefl _
theorem ltDisk_tr (a b c : S71) (h1 : ltDisk a b) (h2 : ltDisk b c) : ltDisk a c := bl_trans h1 h2
theorem extDisk {l m : List S71} (hl : srtDisk l) (hm : srtDisk m) (h : ∀ x, x ∈ l ↔ x ∈ m) : l = m :=
  rise_ext ltDisk ltDisk_irr ltDisk_tr ((srtDisk_iff l).1 hl) ((srtDisk_iff m).1 hm) h
def putDisk (l : List S71) (x : S71) : List S71 := l.filter (fun y => decide (bl y.f0 < bl x.f0)) ++ [x] ++ l.filter (fun y => decide (bl x.f0 < bl y.f0))
def cutDisk (l : List S71) (a : ByteArray) : List S71 := l.filter (fun y => decide (y.f0 ≠ a))
theorem mem_putDisk (l : List S71) (x y : S71) : y ∈ putDisk l x ↔ y = x ∨ (y ∈ l ∧ y.f0 ≠ x.f0) := by
  unfold putDisk
  simp only [List.mem_append, List.mem_filter, List.mem_singleton, decide_eq_true_eq]
  constructor
  · rintro ((⟨h1, h2⟩ | h) | ⟨h1, h2⟩)
    · exact Or.inr ⟨h1, fun e => bl_irrefl _ (by rw [e] at h2; exact h2)⟩
    · exact Or.inl h
    · exact Or.inr ⟨h1, fun e => bl_irrefl _ (by rw [e] at h2; exact h2)⟩
  · rintro (h | ⟨h1, h2⟩)
    · exact Or.inl (Or.inr h)
    · rcases bl_tri (bl y.f0) (bl x.f0) with e | e | e
      · exact Or.inl (Or.inl ⟨h1, e⟩)
      · exact absurd (bl_inj e) h2
      · exact Or.inr ⟨h1, e⟩
theorem mem_cutDisk (l : List S71) (a : ByteArray) (y : S71) : y ∈ cutDisk l a ↔ y ∈ l ∧ y.f0 ≠ a := by
  unfold cutDisk
  simp [List.mem_filter]
theorem putDisk_srt {l : List S71} (h : srtDisk l) (x : S71) : srtDisk (putDisk l x) := by
  rw [srtDisk_iff] at h ⊢
  unfold putDisk
  rw [List.pairwise_append, List.pairwise_append]
  refine ⟨⟨h.filter _, List.pairwise_singleton _ _, fun a ha b hb => ?_⟩, h.filter _, fun a ha b hb => ?_⟩
  · rw [List.mem_singleton] at hb
    subst hb
    show bl a.f0 < bl b.f0
    exact of_decide_eq_true (List.mem_filter.1 ha).2
  · have hb := (List.mem_filter.1 hb).2
    rw [decide_eq_true_eq] at hb
    rcases List.mem_append.1 ha with ha | ha
    · have ha := (List.mem_filter.1 ha).2
      rw [decide_eq_true_eq] at ha
      exact bl_trans ha hb
    · rw [List.mem_singleton] at ha
      subst ha
      exact hb
theorem cutDisk_srt {l : List S71} (h : srtDisk l) (a : ByteArray) : srtDisk (cutDisk l a) := by
  rw [srtDisk_iff] at h ⊢
  exact h.filter _
theorem getI_Disk (l : List S71) (i : Nat) (h : i < l.length) : l.getD i z71 = l[i] := by simp [List.getD_eq_getElem?_getD, List.getElem?_eq_getElem h]
theorem putDisk_at {l : List S71} (h : srtDisk l) (x : S71) (p : Nat) (hp : p < l.length) (he : (l.getD p z71).f0 = x.f0) : putDisk l x = l.set p x := by
  have hlt : ∀ t (ht : t < l.length), t < p → bl l[t].f0 < bl x.f0 := fun t ht htp => by
    have := h t p htp hp
    rw [he, getI_Disk l t ht] at this
    exact this
  have hgt : ∀ t (ht : t < l.length), p < t → bl x.f0 < bl l[t].f0 := fun t ht htp => by
    have := h p t htp ht
    rw [he, getI_Disk l t ht] at this
    exact this
  have heq : bl l[p].f0 = bl x.f0 := by rw [← he, getI_Disk l p hp]
  unfold putDisk
  have hn1 : ∀ t (ht : t < l.length), p ≤ t → ¬ bl l[t].f0 < bl x.f0 := fun t ht htp hc => by
    by_cases e : t = p
    · subst e
      rw [heq] at hc
      exact bl_irrefl _ hc
    · exact bl_irrefl _ (bl_trans hc (hgt t ht (by omega)))
  have hn2 : ∀ t (ht : t < l.length), t < p + 1 → ¬ bl x.f0 < bl l[t].f0 := fun t ht htp hc => by
    by_cases e : t = p
    · subst e
      rw [heq] at hc
      exact bl_irrefl _ hc
    · exact bl_irrefl _ (bl_trans hc (hlt t ht (by omega)))
  rw [filter_take _ l p (fun t ht htp => decide_eq_true (hlt t ht htp)) (fun t ht htp => decide_eq_false (hn1 t ht htp)),
    filter_drop _ l (p + 1) (fun t ht htp => decide_eq_false (hn2 t ht htp)) (fun t ht htp => decide_eq_true (hgt t ht (by omega))), List.set_eq_take_append_cons_drop, if_pos hp, List.append_assoc, List.singleton_append]
theorem putDisk_new {l : List S71} (x : S71) (c : Nat) (hc : c ≤ l.length) (h1 : ∀ t, t < c → bl (l.getD t z71).f0 < bl x.f0) (h2 : ∀ t, c ≤ t → t < l.length → bl x.f0 < bl (l.getD t z71).f0) : putDisk l x = l.take c ++ [x] ++ l.drop c := by
  unfold putDisk
  have hn1 : ∀ t (ht : t < l.length), c ≤ t → ¬ bl l[t].f0 < bl x.f0 := fun t ht htp hc => by
    rw [← getI_Disk l t ht] at hc
    exact bl_irrefl _ (bl_trans hc (h2 t htp ht))
  have hn2 : ∀ t (ht : t < l.length), t < c → ¬ bl x.f0 < bl l[t].f0 := fun t ht htp hc => by
    rw [← getI_Disk l t ht] at hc
    exact bl_irrefl _ (bl_trans hc (h1 t htp))
  rw [filter_take _ l c (fun t ht htp => decide_eq_true (by rw [← getI_Disk l t ht]; exact h1 t htp)) (fun t ht htp => decide_eq_false (hn1 t ht htp)),
    filter_drop _ l c (fun t ht htp => decide_eq_false (hn2 t ht htp)) (fun t ht htp => decide_eq_true (by rw [← getI_Disk l t ht]; exact h2 t htp ht))]
theorem cutDisk_at {l : List S71} (h : srtDisk l) (a : ByteArray) (p : Nat) (hp : p < l.length) (he : (l.getD p z71).f0 = a) : cutDisk l a = l.eraseIdx p := by
  refine extDisk (cutDisk_srt h a) ?_ fun x => ?_
  · rw [srtDisk_iff] at h ⊢
    exact h.sublist (List.eraseIdx_sublist _ _)
  · rw [mem_cutDisk, List.mem_eraseIdx_iff_getElem]
    rw [getI_Disk l p hp] at he
    constructor
    · rintro ⟨h1, h2⟩
      obtain ⟨i, hi, rfl⟩ := List.mem_iff_getElem.1 h1
      exact ⟨i, hi, fun e => h2 (by subst e; exact he), rfl⟩
    · rintro ⟨i, hi, hne, rfl⟩
      refine ⟨List.getElem_mem hi, fun e => ?_⟩
      have e2 : bl l[i].f0 = bl l[p].f0 := by rw [e, he]
      rcases Nat.lt_or_gt_of_ne hne with hlt | hlt
      · have := h i p hlt hp
        rw [getI_Disk l p hp, getI_Disk l i hi, e2] at this
        exact bl_irrefl _ this
      · have := h p i hlt hi
        rw [getI_Disk l p hp, getI_Disk l i hi, e2] at this
        exact bl_irrefl _ this
theorem cutDisk_none {l : List S71} (a : ByteArray) (hn : ∀ p, p < l.length → (l.getD p z71).f0 ≠ a) : cutDisk l a = l := by
  unfold cutDisk
  refine List.filter_eq_self.2 fun x hx => ?_
  obtain ⟨i, hi, rfl⟩ := List.mem_iff_getElem.1 hx
  have := hn i hi
  rw [getI_Disk l i hi] at this
  simpa using this
theorem putDisk_len (l : List S71) (x : S71) : (putDisk l x).length ≤ l.length + 1 := by
  unfold putDisk
  rw [List.length_append, List.length_append]
  have := filter_two (fun y : S71 => decide (bl y.f0 < bl x.f0)) (fun y : S71 => decide (bl x.f0 < bl y.f0)) (fun y h1 h2 => bl_irrefl _ (bl_trans (of_decide_eq_true h1) (of_decide_eq_true h2))) l
  simp only [List.length_cons, List.length_nil]
  omega
theorem cutDisk_len (l : List S71) (a : ByteArray) : (cutDisk l a).length ≤ l.length := List.length_filter_le _ _
/-- The first place from i on with a's name; -1. -/
def posDisk (l : List S71) (a : ByteArray) : Nat → Nat → Int
  | 0, _ => -1
  | d + 1, i => if (l.getD i z71).f0 = a then (i : Int) else posDisk l a d (i + 1)
theorem posDisk_cases (l : List S71) (a : ByteArray) (d : Nat) : ∀ i, (∃ p, i ≤ p ∧ p < i + d ∧ (l.getD p z71).f0 = a ∧ posDisk l a d i = (p : Int)) ∨ ((∀ p, i ≤ p → p < i + d → (l.getD p z71).f0 ≠ a) ∧ posDisk l a d i = -1) := by
  induction d with
  | zero => exact fun i => Or.inr ⟨fun p h1 h2 => by omega, rfl⟩
  | succ d ih =>
    intro i
    by_cases e : (l.getD i z71).f0 = a
    · exact Or.inl ⟨i, by omega, by omega, e, by rw [posDisk, if_pos e]⟩
    · rcases ih (i + 1) with ⟨p, h1, h2, h3, h4⟩ | ⟨h1, h2⟩
      · exact Or.inl ⟨p, by omega, by omega, h3, by rw [posDisk, if_neg e, h4]⟩
      · refine Or.inr ⟨fun p h3 h4 => ?_, by rw [posDisk, if_neg e, h2]⟩
        by_cases ep : p = i
        · rw [ep]; exact e
        · exact h1 p (by omega) (by omega)
/-- What the look-up answers. -/
def diskGetOf (l : List S71) (a : ByteArray) : ByteArray × Bool := if diskCOf l = true ∧ 0 ≤ posDisk l a l.length 0 then ((l.getD (posDisk l a l.length 0).toNat z71).f1, true) else ((⟨#[]⟩ : ByteArray), false)
theorem tl_eq {a b : ByteArray} : a.toList = b.toList ↔ a = b := ⟨fun h => by rw [bl_toList, bl_toList] at h; exact bl_inj h, fun h => by rw [h]⟩
/-- A raw write: its kind, its file, the file it goes to, its text. -/
structure Rw where
  f0 : Int
  f1 : ByteArray
  f2 : ByteArray
  f3 : ByteArray
/-- A file's text; empty where there is none. -/
def oldOf (l : List S71) (a : ByteArray) : ByteArray := if 0 ≤ posDisk l a l.length 0 then (l.getD (posDisk l a l.length 0).toNat z71).f1 else ⟨#[]⟩
def rawOut (l : List S71) (r : Rw) : List S71 :=
  if r.f0 = 1 then putDisk l ⟨r.f1, r.f3⟩ else if r.f0 = 2 then putDisk l ⟨r.f1, oldOf l r.f1 ++ r.f3⟩ else if r.f0 = 3 then (if r.f2 = r.f1 then l else putDisk (cutDisk l r.f1) ⟨r.f2, oldOf l r.f1⟩) else cutDisk l r.f1
def rawFits (l : List S71) (r : Rw) : Prop := diskCOf l = true ∧ (1 ≤ r.f0 ∧ r.f0 ≤ 4) ∧ (0 ≤ posDisk l r.f1 l.length 0 ∨ r.f0 < 3) ∧ diskCOf (rawOut l r) = true
instance (l : List S71) (r : Rw) : Decidable (rawFits l r) := by unfold rawFits; exact inferInstance
/-- What a raw write answers. -/
def putRawOf (l : List S71) (r : Rw) : List S71 × Bool := if rawFits l r then (rawOut l r, true) else ([], false)
theorem rawOut_len (l : List S71) (r : Rw) : (rawOut l r).length ≤ l.length + 1 := by
  unfold rawOut
  have h1 := fun x => putDisk_len l x
  have h2 := cutDisk_len l r.f1
  have h3 := putDisk_len (cutDisk l r.f1) ⟨r.f2, oldOf l r.f1⟩
  split
  · exact h1 _
  split
  · exact h1 _
  split
  · split
    · omega
    · omega
  · omega
theorem putRawOf_len (l : List S71) (r : Rw) (h : l.length ≤ 1048576) : (putRawOf l r).1.length ≤ 1048576 := by
  unfold putRawOf
  by_cases hr : rawFits l r
  · rw [if_pos hr]
    have := (diskC_srt hr.2.2.2).2.1
    show (rawOut l r).length ≤ 1048576
    omega
  · rw [if_neg hr]; simp
theorem oldOf_size (l : List S71) (a : ByteArray) (h : diskCOf l = true) : (oldOf l a).size ≤ 20000 := by
  unfold oldOf
  rcases posDisk_cases l a l.length 0 with ⟨p, h1, h2, h3, h4⟩ | ⟨h1, h2⟩
  · have := (diskC_srt h).2.2 p (by omega)
    rw [if_pos (by omega), h4]
    show (l.getD p z71).f1.size ≤ 20000
    omega
  · rw [if_neg (by omega)]
    decide
theorem diskGetOf_old (l : List S71) (a : ByteArray) (h : diskCOf l = true) : diskGetOf l a = (oldOf l a, decide (0 ≤ posDisk l a l.length 0)) := by
  unfold diskGetOf oldOf
  by_cases hp : 0 ≤ posDisk l a l.length 0
  · rw [if_pos ⟨h, hp⟩, if_pos hp, decide_eq_true hp]
  · rw [if_neg (fun e => hp e.2), if_neg hp, decide_eq_false hp]
theorem rdI_Raw (l : List S65) (n : Nat) (h : n < l.length) : rd_T65 l (n : Int) = l[n] := by
  show l.getD n z65 = _
  simp [List.getD_eq_getElem?_getD, List.getElem?_eq_getElem h]
def rwOf (x : S65) : Rw := ⟨x.f0, x.f1, x.f2, x.f3⟩
/-- Raw writes one by one, till one can't be done. -/
def runRaws : List Rw → Nat → List S71 → List S71 × Int
  | [], i, d => (d, (i : Int))
  | r :: rs, i, d => if (putRawOf d r).2 = true then runRaws rs (i + 1) (putRawOf d r).1 else (d, (i : Int))
def putRawsOf (d : List S71) (rs : List Rw) : List S71 × Int := if diskCOf d = true ∧ rs.length ≤ 60 then runRaws rs 0 d else ([], 0)
theorem runRaws_len : ∀ (rs : List Rw) (i : Nat) (d : List S71), d.length ≤ 1048576 → (runRaws rs i d).1.length ≤ 1048576
  | [], i, d, h => h
  | r :: rs, i, d, h => by
    rw [runRaws]
    split
    · exact runRaws_len rs _ _ (putRawOf_len d r h)
    · exact h
theorem putRawsOf_len (d : List S71) (rs : List Rw) (h : d.length ≤ 1048576) : (putRawsOf d rs).1.length ≤ 1048576 := by
  unfold putRawsOf
  split
  · exact runRaws_len _ _ _ h
  · simp
theorem diskC_of {l : List S71} (h : srtDisk l) (hl : l.length ≤ 30) (hx : ∀ x ∈ l, 1 ≤ x.f0.size ∧ x.f0.size ≤ 12 ∧ x.f1.size ≤ 20000) : diskCOf l = true := by
  unfold diskCOf
  rw [decide_eq_true (show (l.length : Int) ≤ 30 by omega), Bool.true_and, allF_true]
  intro j h1 h2
  have hj : j < l.length := by omega
  have hm : l.getD j z71 ∈ l := by
    have : l.getD j z71 = l[j] := by simp [List.getD_eq_getElem?_getD, List.getElem?_eq_getElem hj]
    rw [this]
    exact List.getElem_mem hj
  have hs := hx _ hm
  unfold diskC
  rw [decide_eq_true (show 1 ≤ ((l.getD j z71).f0.size : Int) ∧ ((l.getD j z71).f0.size : Int) ≤ 12 by omega), decide_eq_true (show ((l.getD j z71).f1.size : Int) ≤ 20000 by omega), Bool.true_and, Bool.true_and, Bool.or_eq_true, decide_eq_true_eq]
  by_cases e : j = 0
  · exact Or.inl e
  · right
    rw [bless, bl_toList, bl_toList]
    exact decide_eq_true (h (j - 1) j (by omega) hj)
/-! ### raw writes that all may be done -/
def chainR : List Rw → List S71 → Option (List S71)
  | [], d => some d
  | r :: rs, d => if (putRawOf d r).2 = true then chainR rs (putRawOf d r).1 else none
theorem chain_run : ∀ (rs : List Rw) (i : Nat) (d e : List S71), chainR rs d = some e → runRaws rs i d = (e, ((i + rs.length : Nat) : Int))
  | [], i, d, e, h => by
    rw [chainR] at h
    rw [runRaws, Option.some.inj h]
    rfl
  | r :: rs, i, d, e, h => by
    rw [chainR] at h
    by_cases hc : (putRawOf d r).2 = true
    · rw [if_pos hc] at h
      rw [runRaws, if_pos hc, chain_run rs (i + 1) _ e h, List.length_cons]
      congr 2
      omega
    · rw [if_neg hc] at h
      cases h
theorem chain_app : ∀ (rs qs : List Rw) (d : List S71), chainR (rs ++ qs) d = (chainR rs d).bind (chainR qs)
  | [], qs, d => rfl
  | r :: rs, qs, d => by
    rw [List.cons_append, chainR, chainR]
    by_cases hc : (putRawOf d r).2 = true
    · rw [if_pos hc, if_pos hc, chain_app rs qs]
    · rw [if_neg hc, if_neg hc]
      rfl
theorem chain_snoc {rs : List Rw} {d e : List S71} (h : chainR rs d = some e) (r : Rw) (hr : (putRawOf e r).2 = true) : chainR (rs ++ [r]) d = some (putRawOf e r).1 := by
  rw [chain_app, h, Option.bind_some, chainR, if_pos hr, chainR]
theorem chain_ok : ∀ (rs : List Rw) (d e : List S71), diskCOf d = true → chainR rs d = some e → diskCOf e = true
  | [], d, e, hd, h => by
    rw [chainR] at h
    rw [← Option.some.inj h]
    exact hd
  | r :: rs, d, e, hd, h => by
    rw [chainR] at h
    by_cases hc : (putRawOf d r).2 = true
    · rw [if_pos hc] at h
      refine chain_ok rs _ e ?_ h
      unfold putRawOf at hc ⊢
      by_cases hf : rawFits d r
      · rw [if_pos hf]
        exact hf.2.2.2
      · rw [if_neg hf] at hc
        cases hc
    · rw [if_neg hc] at h
      cases h
theorem chain_puts {rs : List Rw} {d e : List S71} (hd : diskCOf d = true) (hl : rs.length ≤ 60) (h : chainR rs d = some e) : putRawsOf d rs = (e, (rs.length : Int)) := by
  unfold putRawsOf
  rw [if_pos ⟨hd, hl⟩, chain_run rs 0 d e h, Nat.zero_add]
theorem chain_take {rs : List Rw} {d e : List S71} (h : chainR rs d = some e) (n : Nat) : ∃ f, chainR (rs.take n) d = some f := by
  rw [← List.take_append_drop n rs, chain_app] at h
  cases hc : chainR (rs.take n) d with
  | none => rw [hc] at h; cases h
  | some f => exact ⟨f, rfl⟩
theorem chain_step {rs : List Rw} {d e f : List S71} (h : chainR rs d = some e) (n : Nat) (hn : n < rs.length) (hf : chainR (rs.take n) d = some f) : (putRawOf f rs[n]).2 = true ∧ chainR (rs.take (n + 1)) d = some (putRawOf f rs[n]).1 := by
  obtain ⟨g, hg⟩ := chain_take h (n + 1)
  rw [List.take_succ_eq_append_getElem hn, chain_app, hf, Option.bind_some, chainR] at hg
  by_cases hc : (putRawOf f rs[n]).2 = true
  · refine ⟨hc, ?_⟩
    rw [List.take_succ_eq_append_getElem hn]
    exact chain_snoc hf _ hc
  · rw [if_neg hc] at hg
    cases hg
def rightD (n : Nat) (m : List S71) : Prop := srtDisk m ∧ m.length ≤ n ∧ ∀ x ∈ m, 1 ≤ x.f0.size ∧ x.f0.size ≤ 12 ∧ x.f1.size ≤ 20000
theorem rightD_put {n : Nat} {m : List S71} (h : rightD n m) (x : S71) (hx : 1 ≤ x.f0.size ∧ x.f0.size ≤ 12 ∧ x.f1.size ≤ 20000) : rightD (n + 1) (putDisk m x) := by
  refine ⟨putDisk_srt h.1 x, ?_, fun y hy => ?_⟩
  · have := putDisk_len m x
    have := h.2.1
    omega
  · rcases (mem_putDisk m x y).1 hy with rfl | ⟨h1, _⟩
    · exact hx
    · exact h.2.2 y h1
/-- What the draw gives: a right disk, and raw writes that all may be done. -/
def drawn (d : List S71) (rs : List S65) : Prop := diskCOf d = true ∧ d.length ≤ 1048576 ∧ rs.length ≤ 8 ∧ (∀ x ∈ rs, x.f3.size ≤ 5000) ∧ ∃ e, chainR (rs.map rwOf) d = some e
def roomOf (rs : List S65) (a : Int) : Int := if a ≥ (rs.length : Int) then 0 else if (rs.getD a.toNat z65).f0 = 1 ∨ (rs.getD a.toNat z65).f0 = 2 then ((rs.getD a.toNat z65).f3.size : Int) else 0
/-- The first w of them, and of the next its first p bytes. -/
def cutL (rs : List S65) (w : Nat) (p : Int) : List S65 := if p > 0 then rs.take w ++ [⟨(rs.getD w z65).f0, (rs.getD w z65).f1, (rs.getD w z65).f2, (rs.getD w z65).f3.extract 0 p.toNat⟩] else rs.take w
def cutEnd (n : Nat) (o : List S71 × Int) : List S71 × Bool := if o.2 = (n : Int) then (o.1, true) else ([], false)
def cutRawsOf (l : List S71) (rs : List S65) (a b : Int) : List S71 × Bool :=
  if diskCOf l = true ∧ rs.length ≤ 60 ∧ (0 ≤ a ∧ a ≤ (rs.length : Int)) ∧ (0 ≤ b ∧ b ≤ roomOf rs a) then cutEnd (cutL rs a.toNat b).length (putRawsOf l ((cutL rs a.toNat b).map rwOf)) else ([], false)
theorem runRaws_le : ∀ (rs : List Rw) (i : Nat) (d : List S71), (runRaws rs i d).2 ≤ ((i + rs.length : Nat) : Int)
  | [], i, d => by
    rw [runRaws]
    show (i : Int) ≤ _
    simp
  | r :: rs, i, d => by
    rw [runRaws]
    split
    · have := runRaws_le rs (i + 1) (putRawOf d r).1
      simp only [List.length_cons] at this ⊢
      omega
    · show (i : Int) ≤ _
      omega
theorem putRawsOf_le (l : List S71) (rs : List Rw) : (putRawsOf l rs).2 ≤ (rs.length : Int) := by
  unfold putRawsOf
  split
  · have := runRaws_le rs 0 l
    omega
  · show (0 : Int) ≤ _
    omega
theorem cutL_len (rs : List S65) (w : Nat) (p : Int) : (cutL rs w p).length ≤ rs.length + 1 := by
  unfold cutL
  split
  · simp only [List.length_append, List.length_cons, List.length_nil, List.length_take]
    omega
  · simp only [List.length_take]
    omega
theorem cutL_size (rs : List S65) (hx : ∀ x ∈ rs, x.f3.size ≤ 140737488351232) (w : Nat) (p : Int) (hw : p > 0 → w < rs.length) : ∀ x ∈ cutL rs w p, x.f3.size ≤ 140737488351232 := by
  intro x hm
  unfold cutL at hm
  by_cases hp : p > 0
  · rw [if_pos hp, List.mem_append, List.mem_singleton] at hm
    rcases hm with hm | rfl
    · exact hx x (List.mem_of_mem_take hm)
    · have hwl := hw hp
      have : rs.getD w z65 ∈ rs := by
        rw [show rs.getD w z65 = rs[w] by simp [List.getD_eq_getElem?_getD, List.getElem?_eq_getElem hwl]]
        exact List.getElem_mem hwl
      have := hx _ this
      show ((rs.getD w z65).f3.extract 0 p.toNat).size ≤ _
      rw [ByteArray.size_extract]
      omega
  · rw [if_neg hp] at hm
    exact hx x (List.mem_of_mem_take hm)
theorem room_lt {rs : List S65} {a b : Int} (hb : b ≤ roomOf rs a) (h : b > 0) : a < (rs.length : Int) := by
  unfold roomOf at hb
  by_cases ha : a ≥ (rs.length : Int)
  · rw [if_pos ha] at hb
    omega
  · omega
theorem room_size {rs : List S65} {a b : Int} (hb : b ≤ roomOf rs a) (h : b > 0) : b ≤ ((rs.getD a.toNat z65).f3.size : Int) := by
  unfold roomOf at hb
  by_cases ha : a ≥ (rs.length : Int)
  · rw [if_pos ha] at hb
    omega
  · rw [if_neg ha] at hb
    split at hb
    · exact hb
    · omega
theorem cutRawsOf_len (l : List S71) (hl : l.length ≤ 1048576) (rs : List S65) (a b : Int) : (cutRawsOf l rs a b).1.length ≤ 1048576 := by
  unfold cutRawsOf cutEnd
  split
  · split
    · exact putRawsOf_len _ _ hl
    · simp
  · simp
/-! ### a raw write cut within -/
theorem disk_inj {l : List S71} (h : l.Pairwise ltDisk) : ∀ x, x ∈ l → ∀ y, y ∈ l → x.f0 = y.f0 → x = y := by
  have ne : ∀ {p q : S71}, ltDisk p q → p.f0 ≠ q.f0 := fun {p q} h e => bl_irrefl (bl q.f0) (by have h2 : bl p.f0 < bl q.f0 := h; rw [e] at h2; exact h2)
  induction l with
  | nil => intro x hx; cases hx
  | cons a l ih =>
    rw [List.pairwise_cons] at h
    intro x hx y hy e
    rcases List.mem_cons.1 hx with e1 | hx2
    · rcases List.mem_cons.1 hy with e2 | hy2
      · rw [e1, e2]
      · rw [e1] at e
        exact absurd e (ne (h.1 _ hy2))
    · rcases List.mem_cons.1 hy with e2 | hy2
      · rw [e2] at e
        exact absurd e.symm (ne (h.1 _ hx2))
      · exact ih h.2 x hx2 y hy2 e
theorem diskGet_mem {b : List S71} (hb : diskCOf b = true) (x : S71) (hx : x ∈ b) : diskGetOf b x.f0 = (x.f1, true) := by
  obtain ⟨hs, _, _⟩ := diskC_srt hb
  obtain ⟨i, hi, rfl⟩ := List.mem_iff_getElem.1 hx
  unfold diskGetOf
  rcases posDisk_cases b b[i].f0 b.length 0 with ⟨p, h1, h2, h3, h4⟩ | ⟨h1, h2⟩
  · have hp : p < b.length := by omega
    rw [if_pos ⟨hb, by omega⟩, h4, Int.toNat_natCast, getI_Disk b p hp]
    rw [getI_Disk b p hp] at h3
    rw [disk_inj ((srtDisk_iff b).1 hs) _ (List.getElem_mem hp) _ (List.getElem_mem hi) h3]
  · exact absurd (getI_Disk b i hi ▸ rfl) (h1 i (by omega) (by omega))
theorem disk_facts {b : List S71} (hb : diskCOf b = true) : srtDisk b ∧ b.length ≤ 30 ∧ ∀ x ∈ b, 1 ≤ x.f0.size ∧ x.f0.size ≤ 12 ∧ x.f1.size ≤ 20000 := by
  obtain ⟨h1, h2, h3⟩ := diskC_srt hb
  refine ⟨h1, by omega, fun x hx => ?_⟩
  obtain ⟨i, hi, rfl⟩ := List.mem_iff_getElem.1 hx
  have := h3 i hi
  rw [getI_Disk b i hi] at this
  omega
theorem put_len_eq (l : List S71) (a s t : ByteArray) : (putDisk l ⟨a, s⟩).length = (putDisk l ⟨a, t⟩).length := by
  unfold putDisk
  simp only [List.length_append, List.length_cons, List.length_nil]
theorem put_less {l : List S71} (hl : diskCOf l = true) {a t : ByteArray} (h : diskCOf (putDisk l ⟨a, t⟩) = true) (s : ByteArray) (hs : s.size ≤ t.size) : diskCOf (putDisk l ⟨a, s⟩) = true := by
  obtain ⟨h1, h2, h3⟩ := disk_facts h
  obtain ⟨l1, l2, l3⟩ := disk_facts hl
  refine diskC_of (putDisk_srt l1 _) (by rw [put_len_eq l a s t]; exact h2) fun x hx => ?_
  rcases (mem_putDisk l ⟨a, s⟩ x).1 hx with rfl | ⟨h4, _⟩
  · have := h3 ⟨a, t⟩ ((mem_putDisk l ⟨a, t⟩ _).2 (Or.inl rfl))
    refine ⟨this.1, this.2.1, ?_⟩
    have h5 : t.size ≤ 20000 := this.2.2
    show s.size ≤ 20000
    omega
  · exact l3 x h4
/-- What stands ahead of the text that a raw write of kind 1 or 2 leaves. -/
def preOf (e : List S71) (r : Rw) : ByteArray := if r.f0 = 1 then ⟨#[]⟩ else oldOf e r.f1
theorem empty_app (t : ByteArray) : (⟨#[]⟩ : ByteArray) ++ t = t := by
  apply ByteArray.ext
  rw [ByteArray.data_append]
  simp
theorem raw_out2 (e : List S71) (r : Rw) (h : r.f0 = 1 ∨ r.f0 = 2) : rawOut e r = putDisk e ⟨r.f1, preOf e r ++ r.f3⟩ := by
  unfold rawOut preOf
  rcases h with h | h
  · rw [if_pos h, if_pos h, empty_app]
  · rw [if_neg (by omega), if_pos h, if_neg (by omega)]
theorem begins_is (p t : ByteArray) : laws_begins.f p (p ++ t) = some true := by
  obtain ⟨a, rfl⟩ := mk_of p
  obtain ⟨b, rfl⟩ := mk_of t
  unfold laws_begins.f
  rw [mk_append, mk_size, mk_size, if_pos (by simp only [List.length_append]; omega), if_pos (by omega), mk_extract, Int.toNat_natCast, Nat.sub_zero, List.drop_zero, List.take_left, beq_self_eq_true]
theorem cut_app (t : ByteArray) (n : Nat) (hn : n ≤ t.size) : t.extract 0 n ++ t.extract n t.size = t := by
  obtain ⟨a, rfl⟩ := mk_of t
  rw [mk_size] at hn ⊢
  rw [mk_extract, mk_extract, mk_append, List.drop_zero, Nat.sub_zero, List.take_of_length_le (l := a.drop n) (by simp), List.take_append_drop]
theorem spec_l01New.ev0 (l : List Int) (hs : l.length ≤ 1048576) (d : Nat) : ∀ (i : Nat) (h : Int), i + d = l.length → ∃ h', Ev (fun k => spec_l01New.l0 k l h (i : Int)) (l, 0, h') := by
  induction d with
  | zero =>
    intro i h hi
    refine ⟨h, 1, fun k hk => ?_⟩
    obtain ⟨k, rfl⟩ : ∃ m, k = m + 1 := ⟨k - 1, by omega⟩
    show spec_l01New.l0 (k + 1) _ _ _ = _
    rw [spec_l01New.l0, if_neg (by omega)]
  | succ d ih =>
    intro i h hi
    by_cases hc : i < 4000
    · have e3 : Hd (wrap64 ((i : Int) + 1) = ((i + 1 : Nat) : Int)) := Hd.mk <| by rw [w64 (by omega) (by omega)]; rfl
      obtain ⟨h', hh⟩ := ih (i + 1) (Go.bits .and .i64 (wrap64 ((wrap64 ((wrap64 (h * 131)) + (wrap64 (rd l (i : Int))))) + 7)) 1073741823) (by omega)
      refine ⟨h', Ev.step (fun k => ?_) hh⟩
      show spec_l01New.l0 (k + 1) _ _ _ = _
      rw [spec_l01New.l0, if_pos (by omega), if_pos (by omega), if_pos (by omega), e3.out]
    · refine ⟨h, 1, fun k hk => ?_⟩
      obtain ⟨k, rfl⟩ : ∃ m, k = m + 1 := ⟨k - 1, by omega⟩
      show spec_l01New.l0 (k + 1) _ _ _ = _
      rw [spec_l01New.l0, if_pos (by omega), if_neg (by omega)]
theorem spec_l01New.ev (l : List Int) (hs : l.length ≤ 1048576) : ∃ h, Ev (fun k => spec_l01New.f k l) (l, 0, h) := by
  obtain ⟨h, hh⟩ := spec_l01New.ev0 l hs l.length 0 (wrap64 (10301 + (l.length : Int))) (by omega)
  exact ⟨h, hh⟩
theorem i64_and255 (n : Int) : Go.bits .and .i64 n 255 = n % 256 := by
  have h255 : (BitVec.ofInt 64 255).toNat = 2 ^ 8 - 1 := by decide
  have key : (BitVec.ofInt 64 n &&& BitVec.ofInt 64 255).toNat = (n % ((2 ^ 64 : Nat) : Int)).toNat % 2 ^ 8 := by
    rw [BitVec.toNat_and, BitVec.toNat_ofInt, h255, Nat.and_two_pow_sub_one_eq_mod]
  show IntKind.i64.wrap ((BitVec.ofInt 64 n &&& BitVec.ofInt 64 255).toNat : Nat) = n % 256
  rw [key, IntKind.wrap_i64]
  omega
theorem spec_l01Byte.is (b : List Int) (hs : b.length ≤ 1048576) (i h : Int) (h0 : 0 ≤ i) (h1 : i ≤ b.length) : ∃ v i' h', spec_l01Byte.f b i h = some (v, i', h') ∧ 0 ≤ v ∧ v ≤ 255 ∧ 0 ≤ i' ∧ i' ≤ b.length := by
  unfold spec_l01Byte.f
  by_cases hc : i < (b.length : Int)
  · rw [if_pos hc, if_pos h0, i64_and255]
    exact ⟨_, _, _, rfl, by omega, by omega, by rw [w64 (by omega) (by omega)]; omega, by rw [w64 (by omega) (by omega)]; omega⟩
  · rw [if_neg hc, i64_and255]
    exact ⟨_, _, _, rfl, by omega, by omega, h0, h1⟩
theorem tmod_in {x n : Int} (h0 : 0 ≤ x) (hn : 0 < n) : 0 ≤ Int.tmod x n ∧ Int.tmod x n < n := by
  rw [Int.tmod_eq_emod_of_nonneg h0]
  exact ⟨Int.emod_nonneg _ (by omega), Int.emod_lt_of_pos _ hn⟩
theorem spec_l01Below.is (b : List Int) (hs : b.length ≤ 1048576) (i h n : Int) (h0 : 0 ≤ i) (h1 : i ≤ b.length) : ∃ v i' h', spec_l01Below.f b i h n = some (v, i', h') ∧ 0 ≤ v ∧ (n ≤ 0 → v = 0) ∧ (0 < n → v < n) ∧ 0 ≤ i' ∧ i' ≤ b.length := by
  unfold spec_l01Below.f
  by_cases hc : n ≤ 0
  · rw [if_pos hc]
    exact ⟨_, _, _, rfl, by omega, fun _ => rfl, fun h => by omega, h0, h1⟩
  · rw [if_neg hc]
    by_cases hd : n ≤ 256
    · obtain ⟨v, i', h', e, g0, g1, g2, g3⟩ := spec_l01Byte.is b hs i h h0 h1
      rw [if_pos hd, e, Option.bind_some, if_neg (by omega)]
      have := tmod_in g0 (show 0 < n by omega)
      exact ⟨_, _, _, rfl, this.1, fun h => by omega, fun _ => this.2, g2, g3⟩
    · obtain ⟨v1, i1, s1, e1, a1, b1, c1, d1⟩ := spec_l01Byte.is b hs i h h0 h1
      obtain ⟨v2, i2, s2, e2, a2, b2, c2, d2⟩ := spec_l01Byte.is b hs i1 s1 c1 d1
      obtain ⟨v3, i3, s3, e3, a3, b3, c3, d3⟩ := spec_l01Byte.is b hs i2 s2 c2 d2
      obtain ⟨v4, i4, s4, e4, a4, b4, c4, d4⟩ := spec_l01Byte.is b hs i3 s3 c3 d3
      rw [if_neg hd, e1, Option.bind_some]
      dsimp only
      rw [e2, Option.bind_some]
      dsimp only
      rw [e3, Option.bind_some]
      dsimp only
      rw [e4, Option.bind_some, if_neg (by omega)]
      have hw : 0 ≤ wrap64 ((wrap64 ((wrap64 ((wrap64 (v1 * 16777216)) + (wrap64 (v2 * 65536)))) + (wrap64 (v3 * 256)))) + v4) := by
        rw [w64 (x := v1 * 16777216) (by omega) (by omega), w64 (x := v2 * 65536) (by omega) (by omega), w64 (x := v3 * 256) (by omega) (by omega), w64 (x := v1 * 16777216 + v2 * 65536) (by omega) (by omega),
          w64 (x := v1 * 16777216 + v2 * 65536 + v3 * 256) (by omega) (by omega), w64 (by omega) (by omega)]
        omega
      have := tmod_in hw (show 0 < n by omega)
      exact ⟨_, _, _, rfl, this.1, fun h => by omega, fun _ => this.2, c4, d4⟩
theorem spec_l01Pick.is (b : List Int) (hs : b.length ≤ 1048576) (i h : Int) (l : List ByteArray) (hl : 0 < l.length) (h0 : 0 ≤ i) (h1 : i ≤ b.length) : ∃ v i' h', spec_l01Pick.f b i h l = some (v, i', h') ∧ v ∈ l ∧ 0 ≤ i' ∧ i' ≤ b.length := by
  obtain ⟨v, i', h', e, g0, _, g1, g2, g3⟩ := spec_l01Below.is b hs i h (l.length : Int) h0 h1
  have g1 := g1 (by omega)
  obtain ⟨n, rfl⟩ := Int.eq_ofNat_of_zero_le g0
  have hn : n < l.length := by omega
  refine ⟨l[n], i', h', ?_, List.getElem_mem hn, g2, g3⟩
  unfold spec_l01Pick.f
  rw [e, Option.bind_some, if_pos (show (0 : Int) ≤ (n : Int) by omega), if_pos (show (n : Int) < (l.length : Int) by omega)]
  have : rdOf ByteArray.empty l (n : Int) = l[n] := by
    show l.getD n ByteArray.empty = _
    simp [List.getD_eq_getElem?_getD, List.getElem?_eq_getElem hn]
  rw [this]
theorem spec_l01PickInt.is (b : List Int) (hs : b.length ≤ 1048576) (i h : Int) (l : List Int) (hl : 0 < l.length) (h0 : 0 ≤ i) (h1 : i ≤ b.length) : ∃ v i' h', spec_l01PickInt.f b i h l = some (v, i', h') ∧ 0 ≤ i' ∧ i' ≤ b.length := by
  obtain ⟨v, i', h', e, g0, _, g1, g2, g3⟩ := spec_l01Below.is b hs i h (l.length : Int) h0 h1
  have g1 := g1 (by omega)
  unfold spec_l01PickInt.f
  rw [e, Option.bind_some, if_pos g0, if_pos g1]
  exact ⟨_, _, _, rfl, g2, g3⟩
theorem spec_l01Text.ev0 (b : List Int) (hs : b.length ≤ 1048576) (n : Int) (hn : n ≤ 5000) (d : Nat) : ∀ (j : Nat) (acc : List UInt8) (i h : Int), n ≤ (j : Int) + d → j ≤ 5000 → acc.length = j → 0 ≤ i → i ≤ b.length → ((j : Int) ≤ n ∨ j = 0) →
    ∃ t i' h', Ev (fun k => spec_l01Text.l0 k n (nm acc) (j : Int) b i h) (mk t, i', h') ∧ (t.length : Int) = max n 0 ∧ 0 ≤ i' ∧ i' ≤ b.length := by
  induction d with
  | zero =>
    intro j acc i h hj hj2 hacc h0 h1 hjn
    refine ⟨acc, i, h, ⟨1, fun k hk => ?_⟩, by omega, h0, h1⟩
    obtain ⟨k, rfl⟩ : ∃ m, k = m + 1 := ⟨k - 1, by omega⟩
    show spec_l01Text.l0 (k + 1) _ _ _ _ _ _ = _
    rw [spec_l01Text.l0, if_neg (by omega), strOf_nm]
  | succ d ih =>
    intro j acc i h hj hj2 hacc h0 h1 hjn
    by_cases hc : (j : Int) < n
    · obtain ⟨v, i', h', e, g0, g1, g2, g3⟩ := spec_l01Byte.is b hs i h h0 h1
      obtain ⟨vn, rfl⟩ := Int.eq_ofNat_of_zero_le g0
      obtain ⟨t, i2, h2, hh, ht, k0, k1⟩ := ih (j + 1) (acc ++ [UInt8.ofNat vn]) i' h' (by omega) (by omega) (by simp; omega) g2 g3 (by omega)
      have e3 : Hd (wrap64 ((j : Int) + 1) = ((j + 1 : Nat) : Int)) := Hd.mk <| by rw [w64 (by omega) (by omega)]; rfl
      refine ⟨t, i2, h2, Ev.step (fun k => ?_) hh, ht, k0, k1⟩
      show spec_l01Text.l0 (k + 1) _ _ _ _ _ _ = spec_l01Text.l0 k _ _ _ _ _ _
      rw [spec_l01Text.l0, if_pos hc, e, Option.bind_some]
      dsimp only
      rw [if_pos (by rw [nm_length]; omega), e3.out, nm_append, nm_u8 vn (by omega), show ((vn : Int) % 256) = (vn : Int) by omega]
    · refine ⟨acc, i, h, ⟨1, fun k hk => ?_⟩, by omega, h0, h1⟩
      obtain ⟨k, rfl⟩ : ∃ m, k = m + 1 := ⟨k - 1, by omega⟩
      show spec_l01Text.l0 (k + 1) _ _ _ _ _ _ = _
      rw [spec_l01Text.l0, if_neg (by omega), strOf_nm]
theorem spec_l01Text.ev (b : List Int) (hs : b.length ≤ 1048576) (i h n : Int) (h0 : 0 ≤ i) (h1 : i ≤ b.length) :
    ∃ t i' h', Ev (fun k => spec_l01Text.f k b i h n) (mk t, i', h') ∧ (t.length : Int) = max (min n 5000) 0 ∧ 0 ≤ i' ∧ i' ≤ b.length := by
  by_cases hc : n > 5000
  · obtain ⟨t, i', h', ⟨K, hK⟩, ht, k0, k1⟩ := spec_l01Text.ev0 b hs 5000 (by omega) 5000 0 [] i h (by omega) (by omega) rfl h0 h1 (by omega)
    dsimp only at hK
    refine ⟨t, i', h', ⟨K + 1, fun k hk => ?_⟩, by omega, k0, k1⟩
    obtain ⟨k, rfl⟩ : ∃ m, k = m + 1 := ⟨k - 1, by omega⟩
    show spec_l01Text.f (k + 1) _ _ _ _ = _
    unfold spec_l01Text.f
    rw [if_pos hc, spec_l01Text.j0]
    exact hK k (by omega)
  · obtain ⟨t, i', h', ⟨K, hK⟩, ht, k0, k1⟩ := spec_l01Text.ev0 b hs n (by omega) 5000 0 [] i h (by omega) (by omega) rfl h0 h1 (by omega)
    dsimp only at hK
    refine ⟨t, i', h', ⟨K + 1, fun k hk => ?_⟩, by omega, k0, k1⟩
    obtain ⟨k, rfl⟩ : ∃ m, k = m + 1 := ⟨k - 1, by omega⟩
    show spec_l01Text.f (k + 1) _ _ _ _ = _
    unfold spec_l01Text.f
    rw [if_neg hc, spec_l01Text.j0]
    exact hK k (by omega)
theorem spec_l01Long.ev0 (n x : Int) (hn : n ≤ 1048576) (d : Nat) : ∀ (j : Nat) (l : List Int), (j : Int) + d = n → (l.length : Int) = n → ∃ l' : List Int, Ev (fun k => spec_l01Long.l0 k n x l (j : Int)) (strOfNums l') ∧ (l'.length : Int) = n := by
  induction d with
  | zero =>
    intro j l hj hl
    refine ⟨l, ⟨1, fun k hk => ?_⟩, hl⟩
    obtain ⟨k, rfl⟩ : ∃ m, k = m + 1 := ⟨k - 1, by omega⟩
    show spec_l01Long.l0 (k + 1) _ _ _ _ = _
    rw [spec_l01Long.l0, if_neg (by omega)]
  | succ d ih =>
    intro j l hj hl
    obtain ⟨l', hh, h'⟩ := ih (j + 1) (l.set j x) (by omega) (by simp; omega)
    have e3 : Hd (wrap64 ((j : Int) + 1) = ((j + 1 : Nat) : Int)) := Hd.mk <| by rw [w64 (by omega) (by omega)]; rfl
    refine ⟨l', Ev.step (fun k => ?_) hh, h'⟩
    show spec_l01Long.l0 (k + 1) _ _ _ _ = spec_l01Long.l0 k _ _ _ _
    rw [spec_l01Long.l0, if_pos (by omega), if_pos (by omega), if_pos (by omega), e3.out]
    rfl
theorem spec_l01Long.ev (n x : Int) (h0 : 0 ≤ n) (hn : n ≤ 1048576) : ∃ t, Ev (fun k => spec_l01Long.f k n x) (mk t) ∧ (t.length : Int) = n := by
  obtain ⟨l', ⟨K, hK⟩, hl⟩ := spec_l01Long.ev0 n x hn n.toNat 0 (List.replicate n.toNat 0) (by omega) (by simp; omega)
  dsimp only at hK
  obtain ⟨t, ht⟩ := mk_of (strOfNums l')
  have hsz : (strOfNums l').size = t.length := by rw [ht, mk_size]
  rw [strOfNums_size] at hsz
  refine ⟨t, ⟨K, fun k hk => ?_⟩, by omega⟩
  show spec_l01Long.f k _ _ = _
  unfold spec_l01Long.f
  rw [if_pos h0, if_pos (by omega), ← ht]
  exact hK k hk
theorem rdI_File (l : List S71) (n : Nat) (h : n < l.length) : rd_T71 l (n : Int) = l[n] := by
  show l.getD n z71 = _
  simp [List.getD_eq_getElem?_getD, List.getElem?_eq_getElem h]
theorem spec_l03Put.ev1 (l : List S71) (a b : ByteArray) (hs : l.length ≤ 1048576) (d : Nat) : ∀ (i : Nat) (acc : List S71), i + d = l.length → acc.length ≤ 1048577 + i →
    Ev (fun k => spec_l03Put.l1 k (i : Int) l a b acc) (acc ++ (l.drop i).filter (fun y => decide (bl a < bl y.f0))) := by
  induction d with
  | zero =>
    intro i acc hi ha
    refine ev_now fun k => ?_
    show spec_l03Put.l1 (k + 1) _ _ _ _ _ = _
    rw [spec_l03Put.l1, if_neg (by omega), List.drop_eq_nil_of_le (by omega), List.filter_nil, List.append_nil]
  | succ d ih =>
    intro i acc hi ha
    have hlt : i < l.length := by omega
    have ew : Hd (wrap64 ((i : Int) + 1) = ((i + 1 : Nat) : Int)) := Hd.mk <| by rw [w64 (by omega) (by omega)]; rfl
    rw [List.drop_eq_getElem_cons hlt, List.filter_cons]
    by_cases hc : bl a < bl l[i].f0
    · rw [if_pos (decide_eq_true hc)]
      have := ih (i + 1) (acc ++ [l[i]]) (by omega) (by simp; omega)
      rw [List.append_assoc, List.singleton_append] at this
      refine Ev.step (fun k => ?_) this
      show spec_l03Put.l1 (k + 1) _ _ _ _ _ = spec_l03Put.l1 k _ _ _ _ _
      rw [spec_l03Put.l1, if_pos (by omega), if_pos (by omega), rdI_File l i hlt, if_pos (by rw [bless, bl_toList, bl_toList]; exact decide_eq_true hc), if_pos (by omega), ew.out]
    · rw [if_neg (by simpa using hc)]
      refine Ev.step (fun k => ?_) (ih (i + 1) acc (by omega) (by omega))
      show spec_l03Put.l1 (k + 1) _ _ _ _ _ = spec_l03Put.l1 k _ _ _ _ _
      rw [spec_l03Put.l1, if_pos (by omega), if_pos (by omega), rdI_File l i hlt, if_neg (by rw [bless, bl_toList, bl_toList]; simpa using hc), ew.out]
theorem spec_l03Put.ev0 (l : List S71) (a b : ByteArray) (hs : l.length ≤ 1048576) (d : Nat) : ∀ (i : Nat) (acc : List S71), i + d = l.length → acc.length ≤ i →
    Ev (fun k => spec_l03Put.l0 k (i : Int) l a b acc) (acc ++ (l.drop i).filter (fun y => decide (bl y.f0 < bl a)) ++ [⟨a, b⟩] ++ l.filter (fun y => decide (bl a < bl y.f0))) := by
  induction d with
  | zero =>
    intro i acc hi ha
    have h1 := spec_l03Put.ev1 l a b hs l.length 0 (acc ++ [⟨a, b⟩]) (by omega) (by simp; omega)
    rw [List.drop_eq_nil_of_le (by omega), List.filter_nil, List.append_nil]
    refine Ev.step (fun k => ?_) h1
    show spec_l03Put.l0 (k + 1) _ _ _ _ _ = spec_l03Put.l1 k _ _ _ _ _
    rw [spec_l03Put.l0, if_neg (by omega), if_pos (by omega)]
    rfl
  | succ d ih =>
    intro i acc hi ha
    have hlt : i < l.length := by omega
    have ew : Hd (wrap64 ((i : Int) + 1) = ((i + 1 : Nat) : Int)) := Hd.mk <| by rw [w64 (by omega) (by omega)]; rfl
    rw [List.drop_eq_getElem_cons hlt, List.filter_cons]
    by_cases hc : bl l[i].f0 < bl a
    · rw [if_pos (decide_eq_true hc)]
      have := ih (i + 1) (acc ++ [l[i]]) (by omega) (by simp; omega)
      rw [List.append_assoc acc, List.singleton_append] at this
      refine Ev.step (fun k => ?_) this
      show spec_l03Put.l0 (k + 1) _ _ _ _ _ = spec_l03Put.l0 k _ _ _ _ _
      rw [spec_l03Put.l0, if_pos (by omega), if_pos (by omega), rdI_File l i hlt, if_pos (by rw [bless, bl_toList, bl_toList]; exact decide_eq_true hc), if_pos (by omega), ew.out]
    · rw [if_neg (by simpa using hc)]
      refine Ev.step (fun k => ?_) (ih (i + 1) acc (by omega) (by omega))
      show spec_l03Put.l0 (k + 1) _ _ _ _ _ = spec_l03Put.l0 k _ _ _ _ _
      rw [spec_l03Put.l0, if_pos (by omega), if_pos (by omega), rdI_File l i hlt, if_neg (by rw [bless, bl_toList, bl_toList]; simpa using hc), ew.out]
theorem spec_l03Put.ev (l : List S71) (a b : ByteArray) (hs : l.length ≤ 1048576) : Ev (fun k => spec_l03Put.f k l a b) (putDisk l ⟨a, b⟩) := by
  obtain ⟨K, h⟩ := spec_l03Put.ev0 l a b hs l.length 0 [] (by omega) (by simp)
  exact ⟨K, fun k hk => h k hk⟩
theorem spec_l03Drop.ev0 (l : List S71) (a : ByteArray) (hs : l.length ≤ 1048576) (d : Nat) : ∀ (i : Nat) (acc : List S71), i + d = l.length → acc.length ≤ i →
    Ev (fun k => spec_l03Drop.l0 k a (i : Int) l acc) (acc ++ (l.drop i).filter (fun y => decide (y.f0 ≠ a))) := by
  induction d with
  | zero =>
    intro i acc hi ha
    refine ev_now fun k => ?_
    show spec_l03Drop.l0 (k + 1) _ _ _ _ = _
    rw [spec_l03Drop.l0, if_neg (by omega), List.drop_eq_nil_of_le (by omega), List.filter_nil, List.append_nil]
  | succ d ih =>
    intro i acc hi ha
    have hlt : i < l.length := by omega
    have ew : Hd (wrap64 ((i : Int) + 1) = ((i + 1 : Nat) : Int)) := Hd.mk <| by rw [w64 (by omega) (by omega)]; rfl
    rw [List.drop_eq_getElem_cons hlt, List.filter_cons]
    by_cases hc : l[i].f0 = a
    · rw [if_neg (by simpa using hc)]
      refine Ev.step (fun k => ?_) (ih (i + 1) acc (by omega) (by omega))
      show spec_l03Drop.l0 (k + 1) _ _ _ _ = spec_l03Drop.l0 k _ _ _ _
      rw [spec_l03Drop.l0, if_pos (by omega), if_pos (by omega), rdI_File l i hlt, if_pos (tl_eq.2 hc), ew.out]
    · rw [if_pos (by simpa using hc)]
      have := ih (i + 1) (acc ++ [l[i]]) (by omega) (by simp; omega)
      rw [List.append_assoc, List.singleton_append] at this
      refine Ev.step (fun k => ?_) this
      show spec_l03Drop.l0 (k + 1) _ _ _ _ = spec_l03Drop.l0 k _ _ _ _
      rw [spec_l03Drop.l0, if_pos (by omega), if_pos (by omega), rdI_File l i hlt, if_neg (fun h => hc (tl_eq.1 h)), if_pos (by omega), ew.out]
theorem spec_l03Drop.ev (l : List S71) (a : ByteArray) (hs : l.length ≤ 1048576) : Ev (fun k => spec_l03Drop.f k l a) (cutDisk l a) := by
  obtain ⟨K, h⟩ := spec_l03Drop.ev0 l a hs l.length 0 [] (by omega) (by simp)
  exact ⟨K, fun k hk => h k hk⟩
theorem spec_l03At.ev0 (l : List S71) (a : ByteArray) (hs : l.length ≤ 1048576) (d : Nat) : ∀ i : Nat, i + d = l.length → Ev (fun k => spec_l03At.l0 k a (i : Int) l) (posDisk l a d i) := by
  induction d with
  | zero =>
    intro i hi
    refine ev_now fun k => ?_
    show spec_l03At.l0 (k + 1) _ _ _ = _
    rw [spec_l03At.l0, if_neg (by omega)]
    rfl
  | succ d ih =>
    intro i hi
    have e0 : rd_T71 l (i : Int) = l.getD i z71 := rfl
    have ew : Hd (wrap64 ((i : Int) + 1) = ((i + 1 : Nat) : Int)) := Hd.mk <| by rw [w64 (by omega) (by omega)]; rfl
    by_cases e : (l.getD i z71).f0 = a
    · refine ev_now fun k => ?_
      show spec_l03At.l0 (k + 1) _ _ _ = _
      rw [spec_l03At.l0, if_pos (by omega), if_pos (by omega), e0, if_pos (by rw [e]), posDisk, if_pos e]
    · rw [posDisk, if_neg e]
      refine Ev.step (fun k => ?_) (ih (i + 1) (by omega))
      show spec_l03At.l0 (k + 1) _ _ _ = spec_l03At.l0 k _ _ _
      rw [spec_l03At.l0, if_pos (by omega), if_pos (by omega), e0, if_neg (fun h => e (by rw [bl_toList, bl_toList] at h; exact bl_inj h)), ew.out]
theorem spec_l03At.ev (l : List S71) (a : ByteArray) (hs : l.length ≤ 1048576) : Ev (fun k => spec_l03At.f k l a) (posDisk l a l.length 0) := by
  obtain ⟨K, h⟩ := spec_l03At.ev0 l a hs l.length 0 (by omega)
  exact ⟨K, fun k hk => h k hk⟩
theorem spec_l01In.is (a lo hi : Int) : spec_l01In.f a lo hi = some (decide (lo ≤ a ∧ a ≤ hi)) := by
  unfold spec_l01In.f
  by_cases h : a ≥ lo
  · rw [if_pos h]
    congr 1
    simp only [decide_eq_decide]
    exact ⟨fun h' => ⟨h, h'⟩, fun h' => h'.2⟩
  · rw [if_neg h, decide_eq_false (fun h' => h h'.1)]
theorem spec_DiskOk.ev0 (l : List S71) (hs : l.length ≤ 1048576) (d : Nat) : ∀ (i : Nat), i + d = l.length →
    Ev (fun k => spec_DiskOk.l0 k  (i : Int) l) (allF (diskC l) d i) := by
  induction d with
  | zero =>
    intro i hi
    refine ev_now fun k => ?_
    show spec_DiskOk.l0 (k + 1)  _ _ = _
    rw [spec_DiskOk.l0, if_neg (by omega)]
    rfl
  | succ d ih =>
    intro i hi
    have e0 : rd_T71 l (i : Int) = l.getD i z71 := rfl
    by_cases h1 : 1 ≤ ((l.getD i z71).f0.size : Int) ∧ ((l.getD i z71).f0.size : Int) ≤ 12
    · by_cases hv : ((l.getD i z71).f1.size : Int) ≤ 20000
      · by_cases h2 : i = 0
        · have hC : diskC l i = true := by simp only [diskC, decide_eq_true h1, decide_eq_true hv, decide_eq_true h2, Bool.true_or, Bool.and_true]
          simp only [allF, hC, Bool.true_and]
          refine Ev.step (fun k => ?_) (ih (i + 1) (by omega))
          show spec_DiskOk.l0 (k + 1)  _ _ = spec_DiskOk.l0 k  _ _
          rw [spec_DiskOk.l0, if_pos (by omega), if_pos (by omega), e0, spec_l01In.is, decide_eq_true h1]
          simp only [Option.bind_some, if_true]
          rw [if_neg (by omega), if_neg (by omega), w64 (by omega) (by omega)]
          rfl
        · have e2 : Hd (wrap64 ((i : Int) - 1) = ((i - 1 : Nat) : Int)) := Hd.mk <| by rw [w64 (by omega) (by omega)]; omega
          have e1 : rd_T71 l ((i - 1 : Nat) : Int) = l.getD (i - 1) z71 := rfl
          by_cases h3 : Op.bytesLess (l.getD (i - 1) z71).f0.toList (l.getD i z71).f0.toList = true
          · have hC : diskC l i = true := by simp only [diskC, decide_eq_true h1, decide_eq_true hv, h3, Bool.or_true, Bool.and_true]
            simp only [allF, hC, Bool.true_and]
            refine Ev.step (fun k => ?_) (ih (i + 1) (by omega))
            show spec_DiskOk.l0 (k + 1)  _ _ = spec_DiskOk.l0 k  _ _
            rw [spec_DiskOk.l0, if_pos (by omega), if_pos (by omega), e0, spec_l01In.is, decide_eq_true h1]
            simp only [Option.bind_some, if_true]
            rw [if_neg (by omega), if_pos (by omega), e2.out, if_pos (by omega), if_pos (by omega), e1, if_pos h3, w64 (x := (i : Int) + 1) (by omega) (by omega)]
            rfl
          · have hC : diskC l i = false := by simp only [diskC, decide_eq_true h1, decide_eq_true hv, Bool.eq_false_iff.2 h3, decide_eq_false h2, Bool.or_false, Bool.and_false]
            simp only [allF, hC, Bool.false_and]
            refine ev_now fun k => ?_
            show spec_DiskOk.l0 (k + 1)  _ _ = _
            rw [spec_DiskOk.l0, if_pos (by omega), if_pos (by omega), e0, spec_l01In.is, decide_eq_true h1]
            simp only [Option.bind_some, if_true]
            rw [if_neg (by omega), if_pos (by omega), e2.out, if_pos (by omega), if_pos (by omega), e1, if_neg h3]
      · have hC : diskC l i = false := by simp only [diskC, decide_eq_false hv, Bool.false_and, Bool.and_false]
        simp only [allF, hC, Bool.false_and]
        refine ev_now fun k => ?_
        show spec_DiskOk.l0 (k + 1)  _ _ = _
        rw [spec_DiskOk.l0, if_pos (by omega), if_pos (by omega), e0, spec_l01In.is, decide_eq_true h1]
        simp only [Option.bind_some, if_true]
        rw [if_pos (by omega)]
    · have hC : diskC l i = false := by simp only [diskC, decide_eq_false h1, Bool.false_and]
      simp only [allF, hC, Bool.false_and]
      refine ev_now fun k => ?_
      show spec_DiskOk.l0 (k + 1)  _ _ = _
      rw [spec_DiskOk.l0, if_pos (by omega), if_pos (by omega), e0, spec_l01In.is, decide_eq_false h1]
      simp
theorem spec_DiskOk.ev (l : List S71) (hs : l.length ≤ 1048576) : Ev (fun k => spec_DiskOk.f k l) (diskCOf l) := by
  unfold diskCOf
  by_cases hc : (l.length : Int) ≤ 30
  · obtain ⟨K, h⟩ := spec_DiskOk.ev0 l hs l.length 0 (by omega)
    refine ⟨K, fun k hk => ?_⟩
    show spec_DiskOk.f k _ = _
    unfold spec_DiskOk.f
    rw [if_neg (by omega), decide_eq_true hc, Bool.true_and]
    exact h k hk
  · refine ⟨0, fun k hk => ?_⟩
    show spec_DiskOk.f k _ = _
    unfold spec_DiskOk.f
    rw [if_pos (by omega), decide_eq_false hc, Bool.false_and]
theorem spec_l03Text.ev (l : List S71) (a : ByteArray) (hs : l.length ≤ 1048576) : Ev (fun k => spec_l03Text.f k l a) (oldOf l a) := by
  obtain ⟨K, h⟩ := spec_l03At.ev l a hs
  dsimp only at h
  refine ⟨K, fun k hk => ?_⟩
  show spec_l03Text.f k _ _ = _
  unfold spec_l03Text.f oldOf
  rw [h k hk, Option.bind_some]
  rcases posDisk_cases l a l.length 0 with ⟨p, h1, h2, h3, h4⟩ | ⟨h1, h2⟩
  · rw [if_neg (by omega), if_pos (by omega), if_pos (by omega), if_pos (by omega)]
    rfl
  · rw [if_pos (by omega), if_neg (by omega)]
theorem spec_PutRaw.ev (l : List S71) (hs : l.length ≤ 1048576) (r : Rw) (hr : r.f3.size ≤ 140737488351232) : Ev (fun k => spec_PutRaw.f k l r.f0 r.f1 r.f2 r.f3) (putRawOf l r) := by
  obtain ⟨K0, h0⟩ := spec_DiskOk.ev l hs
  obtain ⟨K1, h1⟩ := spec_l03At.ev l r.f1 hs
  have hol := rawOut_len l r
  have no : ∀ (k : Nat) (at_ : Int), spec_PutRaw.j0 (k + 1) at_ true l r.f0 r.f1 r.f2 r.f3 = some (([] : List S71), false) := fun k at_ => by rw [spec_PutRaw.j0, if_pos rfl]
  by_cases hm : diskCOf l = true
  rotate_left
  · dsimp only at h0 h1
    refine ⟨K0 + K1 + 1, fun k hk => ?_⟩
    have h0' := h0 k (by omega)
    have h1' := h1 k (by omega)
    obtain ⟨k, rfl⟩ : ∃ m, k = m + 1 := ⟨k - 1, by omega⟩
    show spec_PutRaw.f (k + 1) _ _ _ _ _ = _
    unfold spec_PutRaw.f putRawOf
    rw [h1', Option.bind_some, h0', Option.bind_some, if_neg hm, no, if_neg (fun h : rawFits l r => hm h.1)]
  obtain ⟨hsr, hml, _⟩ := diskC_srt hm
  have hos := oldOf_size l r.f1 hm
  have hcl := cutDisk_len l r.f1
  obtain ⟨K2, h2⟩ := spec_DiskOk.ev (rawOut l r) (by omega)
  obtain ⟨K3, h3⟩ := spec_l03Text.ev l r.f1 hs
  obtain ⟨K4, h4⟩ := spec_l03Drop.ev l r.f1 hs
  obtain ⟨K5, h5⟩ := spec_l03Put.ev l r.f1 r.f3 hs
  obtain ⟨K6, h6⟩ := spec_l03Put.ev l r.f1 (oldOf l r.f1 ++ r.f3) hs
  obtain ⟨K7, h7⟩ := spec_l03Put.ev (cutDisk l r.f1) r.f2 (oldOf l r.f1) (by omega)
  dsimp only at h0 h1 h2 h3 h4 h5 h6 h7
  refine ⟨K0 + K1 + K2 + K3 + K4 + K5 + K6 + K7 + 1, fun k hk => ?_⟩
  have h0' := h0 k (by omega)
  have h1' := h1 k (by omega)
  obtain ⟨k, rfl⟩ : ∃ m, k = m + 1 := ⟨k - 1, by omega⟩
  have h2' := h2 k (by omega)
  have h3' := h3 k (by omega)
  have h4' := h4 k (by omega)
  have h5' := h5 k (by omega)
  have h6' := h6 k (by omega)
  have h7' := h7 k (by omega)
  show spec_PutRaw.f (k + 1) _ _ _ _ _ = _
  unfold spec_PutRaw.f putRawOf
  rw [h1', Option.bind_some, h0', Option.bind_some, if_pos hm, spec_l01In.is, Option.bind_some]
  by_cases hk : 1 ≤ r.f0 ∧ r.f0 ≤ 4
  rotate_left
  · rw [if_neg (by simpa using hk), no, if_neg (fun h : rawFits l r => hk h.2.1)]
  rw [if_pos (decide_eq_true hk)]
  have fin : ∀ o : List S71, o = rawOut l r → (0 ≤ posDisk l r.f1 l.length 0 ∨ r.f0 < 3) →
      ((spec_DiskOk.f k o).bind fun t => if t = true then some (o, true) else some (([] : List S71), false)) = some (if rawFits l r then (rawOut l r, true) else ([], false)) := fun o ho hp => by
    rw [ho, h2', Option.bind_some]
    by_cases hd : diskCOf (rawOut l r) = true
    · rw [if_pos hd, if_pos (show rawFits l r from ⟨hm, hk, hp, hd⟩)]
    · rw [if_neg hd, if_neg (fun h : rawFits l r => hd h.2.2.2)]
  have go : (0 ≤ posDisk l r.f1 l.length 0 ∨ r.f0 < 3) → spec_PutRaw.j0 (k + 1) (posDisk l r.f1 l.length 0) false l r.f0 r.f1 r.f2 r.f3 = some (if rawFits l r then (rawOut l r, true) else ([], false)) := fun hp => by
    rw [spec_PutRaw.j0, if_neg (show ¬ (false = true) by decide), Option.bind_some, if_pos (by simp; omega), Option.bind_some, List.nil_append]
    by_cases e1 : r.f0 = 1
    · rw [if_pos e1, h5', Option.bind_some]
      exact fin _ (by unfold rawOut; rw [if_pos e1]) hp
    rw [if_neg e1]
    by_cases e2 : r.f0 = 2
    · rw [if_pos e2, h3', Option.bind_some, if_pos (by omega), h6', Option.bind_some]
      exact fin _ (by unfold rawOut; rw [if_neg e1, if_pos e2]) hp
    rw [if_neg e2]
    by_cases e3 : r.f0 = 3
    · rw [if_pos e3]
      by_cases et : r.f2 = r.f1
      · rw [if_pos (tl_eq.2 et)]
        exact fin _ (by unfold rawOut; rw [if_neg e1, if_neg e2, if_pos e3, if_pos et]) hp
      · have hpp : 0 ≤ posDisk l r.f1 l.length 0 := by omega
        have hlt : posDisk l r.f1 l.length 0 < (l.length : Int) := by
          rcases posDisk_cases l r.f1 l.length 0 with ⟨p, a1, a2, a3, a4⟩ | ⟨a1, a2⟩ <;> omega
        have eo : (rd_T71 l (posDisk l r.f1 l.length 0)).f1 = oldOf l r.f1 := by
          unfold oldOf
          rw [if_pos hpp]
          rfl
        rw [if_neg (fun h => et (tl_eq.1 h)), h4', Option.bind_some, if_pos hpp, if_pos hlt, eo, h7', Option.bind_some]
        exact fin _ (by unfold rawOut; rw [if_neg e1, if_neg e2, if_pos e3, if_neg et]) hp
    have e4 : r.f0 = 4 := by omega
    rw [if_neg e3, if_pos e4, h4', Option.bind_some]
    exact fin _ (by unfold rawOut; rw [if_neg e1, if_neg e2, if_neg e3]) hp
  by_cases hp : posDisk l r.f1 l.length 0 < 0
  · rw [if_pos hp]
    by_cases h3 : r.f0 ≥ 3
    · rw [decide_eq_true h3, no, if_neg (fun h : rawFits l r => by have := h.2.2.1; omega)]
    · rw [decide_eq_false h3]
      exact go (by omega)
  · rw [if_neg hp]
    exact go (by omega)
theorem spec_l03Name.is (b : List Int) (hs : b.length ≤ 1048576) (i h : Int) (h0 : 0 ≤ i) (h1 : i ≤ b.length) : ∃ v i' h', spec_l03Name.f b i h = some (v, i', h') ∧ 1 ≤ v.size ∧ v.size ≤ 12 ∧ 0 ≤ i' ∧ i' ≤ b.length := by
  unfold spec_l03Name.f
  obtain ⟨v, i', h', e, g, g0, g1⟩ := spec_l01Pick.is b hs i h (([(⟨#[109]⟩ : ByteArray), (⟨#[103, 48]⟩ : ByteArray), (⟨#[103, 49]⟩ : ByteArray), (⟨#[109, 43]⟩ : ByteArray), (⟨#[108, 111, 103]⟩ : ByteArray), (⟨#[120]⟩ : ByteArray), (⟨#[118, 111, 116, 101]⟩ : ByteArray), (⟨#[108, 111, 103, 43]⟩ : ByteArray)] : List ByteArray)) (by decide) h0 h1
  rw [e, Option.bind_some]
  refine ⟨v, i', h', rfl, ?_, ?_, g0, g1⟩
  · simp only [List.mem_cons, List.not_mem_nil, or_false] at g
    rcases g with rfl | rfl | rfl | rfl | rfl | rfl | rfl | rfl <;> decide
  · simp only [List.mem_cons, List.not_mem_nil, or_false] at g
    rcases g with rfl | rfl | rfl | rfl | rfl | rfl | rfl | rfl <;> decide
theorem spec_l03Raw.ev (b : List Int) (hs : b.length ≤ 1048576) (i h : Int) (h0 : 0 ≤ i) (h1 : i ≤ b.length) : ∃ (r : Rw) (i' h' : Int), Ev (fun k => spec_l03Raw.f k b i h) (r.f0, r.f1, r.f2, r.f3, i', h') ∧ r.f3.size ≤ 5000 ∧ 0 ≤ i' ∧ i' ≤ b.length := by
  obtain ⟨v1, i1, s1, e1, _, _, _, a1, b1⟩ := spec_l01Below.is b hs i h 4 h0 h1
  obtain ⟨v2, i2, s2, e2, _, _, a2, b2⟩ := spec_l03Name.is b hs i1 s1 a1 b1
  obtain ⟨v3, i3, s3, e3, _, _, a3, b3⟩ := spec_l03Name.is b hs i2 s2 a2 b2
  obtain ⟨v4, i4, s4, e4, _, _, _, a4, b4⟩ := spec_l01Below.is b hs i3 s3 9 a3 b3
  obtain ⟨t5, i5, s5, ⟨K5, e5⟩, l5, a5, b5⟩ := spec_l01Text.ev b hs i4 s4 v4 a4 b4
  obtain ⟨v6, i6, s6, e6, _, _, _, a6, b6⟩ := spec_l01Below.is b hs i5 s5 40 a5 b5
  dsimp only at e5
  have hsz : (mk t5).size ≤ 5000 := by rw [mk_size]; omega
  by_cases c0 : v6 = 0
  · obtain ⟨v7, i7, s7, e7, a7, b7⟩ := spec_l01PickInt.is b hs i6 s6 ([0, 5] : List Int) (by simp) a6 b6
    refine ⟨⟨v7, v2, v3, mk t5⟩, i7, s7, ⟨K5, fun k hk => ?_⟩, hsz, a7, b7⟩
    show spec_l03Raw.f k _ _ _ = _
    unfold spec_l03Raw.f
    rw [e1, Option.bind_some]
    dsimp only
    rw [e2, Option.bind_some]
    dsimp only
    rw [e3, Option.bind_some]
    dsimp only
    rw [e4, Option.bind_some]
    dsimp only
    rw [e5 k hk, Option.bind_some]
    dsimp only
    rw [e6, Option.bind_some]
    dsimp only
    rw [if_pos c0, e7, Option.bind_some]
  · by_cases c1 : v6 = 1
    · obtain ⟨tl, ⟨K8, e8⟩, l8⟩ := spec_l01Long.ev 13 97 (by omega) (by omega)
      obtain ⟨v7, i7, s7, e7, _, a7, b7⟩ := spec_l01Pick.is b hs i6 s6 ([(⟨#[]⟩ : ByteArray), mk tl] : List ByteArray) (by simp) a6 b6
      dsimp only at e8
      refine ⟨⟨wrap64 (1 + v1), v7, v3, mk t5⟩, i7, s7, ⟨K5 + K8, fun k hk => ?_⟩, hsz, a7, b7⟩
      show spec_l03Raw.f k _ _ _ = _
      unfold spec_l03Raw.f
      rw [e1, Option.bind_some]
      dsimp only
      rw [e2, Option.bind_some]
      dsimp only
      rw [e3, Option.bind_some]
      dsimp only
      rw [e4, Option.bind_some]
      dsimp only
      rw [e5 k (by omega), Option.bind_some]
      dsimp only
      rw [e6, Option.bind_some]
      dsimp only
      rw [if_neg c0, if_pos c1, e8 k (by omega), Option.bind_some, e7, Option.bind_some]
    · by_cases c2 : v6 = 2
      · refine ⟨⟨wrap64 (1 + v1), v2, ⟨#[]⟩, mk t5⟩, i6, s6, ⟨K5, fun k hk => ?_⟩, hsz, a6, b6⟩
        show spec_l03Raw.f k _ _ _ = _
        unfold spec_l03Raw.f
        rw [e1, Option.bind_some]
        dsimp only
        rw [e2, Option.bind_some]
        dsimp only
        rw [e3, Option.bind_some]
        dsimp only
        rw [e4, Option.bind_some]
        dsimp only
        rw [e5 k hk, Option.bind_some]
        dsimp only
        rw [e6, Option.bind_some]
        dsimp only
        rw [if_neg c0, if_neg c1, if_pos c2]
      · refine ⟨⟨wrap64 (1 + v1), v2, v3, mk t5⟩, i6, s6, ⟨K5, fun k hk => ?_⟩, hsz, a6, b6⟩
        show spec_l03Raw.f k _ _ _ = _
        unfold spec_l03Raw.f
        rw [e1, Option.bind_some]
        dsimp only
        rw [e2, Option.bind_some]
        dsimp only
        rw [e3, Option.bind_some]
        dsimp only
        rw [e4, Option.bind_some]
        dsimp only
        rw [e5 k hk, Option.bind_some]
        dsimp only
        rw [e6, Option.bind_some]
        dsimp only
        rw [if_neg c0, if_neg c1, if_neg c2]
theorem spec_DrawRightDisk.ev1 (b : List Int) (hs : b.length ≤ 1048576) (dk : List S71) (hd : diskCOf dk = true) (hdl : dk.length ≤ 1048576) (n : Nat) : ∀ (j : Nat) (rs : List S65) (now : List S71) (i h : Int), j + n = 8 → rs.length ≤ j → now.length ≤ 1048576 → (∀ x ∈ rs, x.f3.size ≤ 5000) → chainR (rs.map rwOf) dk = some now → 0 ≤ i → i ≤ b.length →
    ∃ rs', Ev (fun k => spec_DrawRightDisk.l1 k rs (j : Int) b i h dk now) (dk, rs') ∧ drawn dk rs' := by
  induction n with
  | zero =>
    intro j rs now i h hj hl hn hx hc h0 h1
    obtain ⟨v, i', h', e, g0, _, g1, g2, g3⟩ := spec_l01Below.is b hs i h 9 h0 h1
    have g1 := g1 (by omega)
    refine ⟨rs, ev_now fun k => ?_, hd, hdl, by omega, hx, _, hc⟩
    show spec_DrawRightDisk.l1 (k + 1) _ _ _ _ _ _ _ = _
    rw [spec_DrawRightDisk.l1, e, Option.bind_some, if_neg (show ¬ (j : Int) < v by omega)]
  | succ n ih =>
    intro j rs now i h hj hl hn hx hc h0 h1
    obtain ⟨v, i', h', e, g0, _, g1, g2, g3⟩ := spec_l01Below.is b hs i h 9 h0 h1
    by_cases hlt : (j : Int) < v
    · obtain ⟨r, i2, s2, ⟨K2, e2⟩, hr, a2, b2⟩ := spec_l03Raw.ev b hs i' h' g2 g3
      obtain ⟨K3, e3⟩ := spec_PutRaw.ev now hn r (by omega)
      dsimp only at e2 e3
      have ew : Hd (wrap64 ((j : Int) + 1) = ((j + 1 : Nat) : Int)) := Hd.mk <| by rw [w64 (by omega) (by omega)]; rfl
      by_cases hp : (putRawOf now r).2 = true
      · obtain ⟨rs', ⟨K4, e4⟩, hdr⟩ := ih (j + 1) (rs ++ [⟨r.f0, r.f1, r.f2, r.f3⟩]) (putRawOf now r).1 i2 s2 (by omega) (by simp; omega) (putRawOf_len now r hn) (fun x hm => by
          rcases List.mem_append.1 hm with hm | hm
          · exact hx x hm
          · rw [List.mem_singleton.1 hm]
            exact hr) (by rw [List.map_append]; exact chain_snoc hc r hp) a2 b2
        dsimp only at e4
        refine ⟨rs', ⟨K2 + K3 + K4 + 1, fun k hk => ?_⟩, hdr⟩
        obtain ⟨k, rfl⟩ : ∃ m, k = m + 1 := ⟨k - 1, by omega⟩
        show spec_DrawRightDisk.l1 (k + 1) _ _ _ _ _ _ _ = _
        rw [spec_DrawRightDisk.l1, e, Option.bind_some, if_pos hlt, e2 k (by omega), Option.bind_some]
        dsimp only
        rw [e3 k (by omega), Option.bind_some, if_pos hp, if_pos (by omega), ew.out]
        exact e4 k (by omega)
      · obtain ⟨rs', ⟨K4, e4⟩, hdr⟩ := ih (j + 1) rs now i2 s2 (by omega) (by omega) hn hx hc a2 b2
        dsimp only at e4
        refine ⟨rs', ⟨K2 + K3 + K4 + 1, fun k hk => ?_⟩, hdr⟩
        obtain ⟨k, rfl⟩ : ∃ m, k = m + 1 := ⟨k - 1, by omega⟩
        show spec_DrawRightDisk.l1 (k + 1) _ _ _ _ _ _ _ = _
        rw [spec_DrawRightDisk.l1, e, Option.bind_some, if_pos hlt, e2 k (by omega), Option.bind_some]
        dsimp only
        rw [e3 k (by omega), Option.bind_some, if_neg hp, ew.out]
        exact e4 k (by omega)
    · refine ⟨rs, ev_now fun k => ?_, hd, hdl, by omega, hx, _, hc⟩
      show spec_DrawRightDisk.l1 (k + 1) _ _ _ _ _ _ _ = _
      rw [spec_DrawRightDisk.l1, e, Option.bind_some, if_neg hlt]
theorem spec_DrawRightDisk.ev0 (b : List Int) (hs : b.length ≤ 1048576) (n : Nat) : ∀ (j : Nat) (dk : List S71) (i h : Int), j + n = 5 → rightD j dk → 0 ≤ i → i ≤ b.length →
    ∃ dk' rs', Ev (fun k => spec_DrawRightDisk.l0 k (j : Int) b i h dk) (dk', rs') ∧ drawn dk' rs' := by
  have fin : ∀ (j : Nat) (dk : List S71) (i h v i' h' : Int), j ≤ 5 → rightD j dk → spec_l01Below.f b i h 6 = some (v, i', h') → ¬ (j : Int) < v → 0 ≤ i' → i' ≤ b.length → ∃ dk' rs', Ev (fun k => spec_DrawRightDisk.l0 k (j : Int) b i h dk) (dk', rs') ∧ drawn dk' rs' := by
    intro j dk i h v i' h' hj hr e hv g2 g3
    have hd := diskC_of hr.1 (by have := hr.2.1; omega) hr.2.2
    have hdl : dk.length ≤ 1048576 := by have := hr.2.1; omega
    obtain ⟨rs', ⟨K, e1⟩, hdr⟩ := spec_DrawRightDisk.ev1 b hs dk hd hdl 8 0 [] dk i' h' (by omega) (by simp) hdl (fun x hx => by cases hx) rfl g2 g3
    dsimp only at e1
    refine ⟨dk, rs', ⟨K + 1, fun k hk => ?_⟩, hdr⟩
    obtain ⟨k, rfl⟩ : ∃ m, k = m + 1 := ⟨k - 1, by omega⟩
    show spec_DrawRightDisk.l0 (k + 1) _ _ _ _ _ = _
    rw [spec_DrawRightDisk.l0, e, Option.bind_some, if_neg hv]
    exact e1 k (by omega)
  induction n with
  | zero =>
    intro j dk i h hj hr h0 h1
    obtain ⟨v, i', h', e, g0, _, g1, g2, g3⟩ := spec_l01Below.is b hs i h 6 h0 h1
    have g1 := g1 (by omega)
    exact fin j dk i h v i' h' (by omega) hr e (by omega) g2 g3
  | succ n ih =>
    intro j dk i h hj hr h0 h1
    obtain ⟨v, i', h', e, g0, _, g1, g2, g3⟩ := spec_l01Below.is b hs i h 6 h0 h1
    by_cases hlt : (j : Int) < v
    · obtain ⟨v2, i2, s2, e2, m2, n2, a2, b2⟩ := spec_l03Name.is b hs i' h' g2 g3
      obtain ⟨v3, i3, s3, e3, _, _, _, a3, b3⟩ := spec_l01Below.is b hs i2 s2 12 a2 b2
      obtain ⟨t4, i4, s4, ⟨K4, e4⟩, l4, a4, b4⟩ := spec_l01Text.ev b hs i3 s3 v3 a3 b3
      obtain ⟨K5, e5⟩ := spec_l03Put.ev dk v2 (mk t4) (by have := hr.2.1; omega)
      obtain ⟨dk', rs', ⟨K6, e6⟩, hdr⟩ := ih (j + 1) (putDisk dk ⟨v2, mk t4⟩) i4 s4 (by omega) (rightD_put hr _ ⟨m2, n2, by show (mk t4).size ≤ 20000; rw [mk_size]; omega⟩) a4 b4
      dsimp only at e4 e5 e6
      have ew : Hd (wrap64 ((j : Int) + 1) = ((j + 1 : Nat) : Int)) := Hd.mk <| by rw [w64 (by omega) (by omega)]; rfl
      refine ⟨dk', rs', ⟨K4 + K5 + K6 + 1, fun k hk => ?_⟩, hdr⟩
      obtain ⟨k, rfl⟩ : ∃ m, k = m + 1 := ⟨k - 1, by omega⟩
      show spec_DrawRightDisk.l0 (k + 1) _ _ _ _ _ = _
      rw [spec_DrawRightDisk.l0, e, Option.bind_some, if_pos hlt]
      dsimp only
      rw [e2, Option.bind_some]
      dsimp only
      rw [e3, Option.bind_some]
      dsimp only
      rw [e4 k (by omega), Option.bind_some]
      dsimp only
      rw [e5 k (by omega), Option.bind_some, ew.out]
      exact e6 k (by omega)
    · exact fin j dk i h v i' h' (by omega) hr e hlt g2 g3
theorem spec_DrawRightDisk.ev (l : List Int) (hs : l.length ≤ 1048576) : ∃ dk rs, Ev (fun k => spec_DrawRightDisk.f k l) (dk, rs) ∧ drawn dk rs := by
  obtain ⟨h, ⟨K1, h1⟩⟩ := spec_l01New.ev l hs
  obtain ⟨dk, rs, ⟨K2, h2⟩, hdr⟩ := spec_DrawRightDisk.ev0 l hs 5 0 [] 0 h (by omega) ⟨fun i j hij hj => by simp at hj, by simp, fun x hx => by cases hx⟩ (by omega) (by omega)
  dsimp only at h1 h2
  refine ⟨dk, rs, ⟨K1 + K2, fun k hk => ?_⟩, hdr⟩
  show spec_DrawRightDisk.f k _ = _
  unfold spec_DrawRightDisk.f
  rw [h1 k (by omega), Option.bind_some]
  exact h2 k (by omega)
theorem spec_DrawPlaces.ev0 (b : List Int) (hs : b.length ≤ 1048576) (d : Nat) : ∀ (j : Nat) (acc : List Int) (i h : Int), j + d = 12 → acc.length = j → (∀ x ∈ acc, 0 ≤ x ∧ x < 10000) → 0 ≤ i → i ≤ b.length →
    ∃ p : List Int, Ev (fun k => spec_DrawPlaces.l0 k acc (j : Int) b i h) p ∧ p.length = 12 ∧ ∀ x ∈ p, 0 ≤ x ∧ x < 10000 := by
  induction d with
  | zero =>
    intro j acc i h hj hl ha h0 h1
    refine ⟨acc, ⟨1, fun k hk => ?_⟩, by omega, ha⟩
    obtain ⟨k, rfl⟩ : ∃ m, k = m + 1 := ⟨k - 1, by omega⟩
    show spec_DrawPlaces.l0 (k + 1) _ _ _ _ _ = _
    rw [spec_DrawPlaces.l0, if_neg (by omega)]
  | succ d ih =>
    intro j acc i h hj hl ha h0 h1
    obtain ⟨v, i', h', e, g0, _, g1, g2, g3⟩ := spec_l01Below.is b hs i h 10000 h0 h1
    obtain ⟨p, hp, hp1, hp2⟩ := ih (j + 1) (acc ++ [v]) i' h' (by omega) (by simp; omega) (fun x hx => by
      rcases List.mem_append.1 hx with hx | hx
      · exact ha x hx
      · rw [List.mem_singleton.1 hx]
        exact ⟨g0, g1 (by omega)⟩) g2 g3
    have e3 : Hd (wrap64 ((j : Int) + 1) = ((j + 1 : Nat) : Int)) := Hd.mk <| by rw [w64 (by omega) (by omega)]; rfl
    refine ⟨p, Ev.step (fun k => ?_) hp, hp1, hp2⟩
    show spec_DrawPlaces.l0 (k + 1) _ _ _ _ _ = spec_DrawPlaces.l0 k _ _ _ _ _
    rw [spec_DrawPlaces.l0, if_pos (by omega), e, Option.bind_some]
    dsimp only
    rw [if_pos (by omega), e3.out]
theorem spec_DrawPlaces.ev (l : List Int) (hs : l.length ≤ 1048576) : ∃ p : List Int, Ev (fun k => spec_DrawPlaces.f k l) p ∧ p.length = 12 ∧ ∀ x ∈ p, 0 ≤ x ∧ x < 10000 := by
  obtain ⟨h, ⟨K1, h1⟩⟩ := spec_l01New.ev l hs
  dsimp only at h1
  obtain ⟨v, i', h', e, _, _, g2, g3⟩ := spec_l01Byte.is l hs 0 h (by omega) (by omega)
  obtain ⟨p, ⟨K2, h2⟩, hp1, hp2⟩ := spec_DrawPlaces.ev0 l hs 12 0 [] i' h' (by omega) rfl (fun x hx => by cases hx) g2 g3
  dsimp only at h2
  refine ⟨p, ⟨K1 + K2, fun k hk => ?_⟩, hp1, hp2⟩
  show spec_DrawPlaces.f k _ = _
  unfold spec_DrawPlaces.f
  rw [h1 k (by omega), Option.bind_some, e, Option.bind_some]
  exact h2 k (by omega)
theorem impl_fileNo.cmp_eq (l : List S71) (a : ByteArray) (i : Nat) : impl_fileNo.cmp l a i = Lib.compareBytes (bl (l.getD i z71).f0) (bl a) := rfl
theorem impl_fileNo.mono_of {l : List S71} (h : srtDisk l) (hl : (l.length : Int) ≤ 1048576) (a : ByteArray) : impl_fileNo.mono0 l a = true := by
  unfold impl_fileNo.mono0
  simp only [Bool.and_eq_true, decide_eq_true_eq, List.all_eq_true, List.mem_range, Bool.or_eq_true, Bool.not_eq_true', decide_eq_false_iff_not]
  refine ⟨by omega, fun b hb i hi => ?_⟩
  by_cases hc : impl_fileNo.cmp l a b < 0
  · right
    rw [impl_fileNo.cmp_eq, cmpB_lt] at hc ⊢
    by_cases e : i = b
    · rw [e]; exact hc
    · exact bl_trans (h i b (by omega) hb) hc
  · exact Or.inl hc
theorem impl_fileNo.found {l : List S71} (h : srtDisk l) (hl : (l.length : Int) ≤ 1048576) (a : ByteArray) (p : Nat) (hp : p < l.length) (he : (l.getD p z71).f0 = a) : impl_fileNo.f l a = some ((p : Int), true) := by
  have hcnt : impl_fileNo.cnt l a = p := impl_fileNo.cnt_eq p (by omega) (fun t ht => by
    rw [impl_fileNo.cmp_eq, cmpB_lt, ← he]
    exact h t p ht hp) (fun t h1 h2 => Int.not_lt.1 fun hc => by
    rw [impl_fileNo.cmp_eq, cmpB_lt, ← he] at hc
    by_cases e : p = t
    · rw [e] at hc; exact bl_irrefl _ hc
    · exact bl_irrefl _ (bl_trans hc (h p t (by omega) h2)))
  unfold impl_fileNo.f
  rw [if_pos (impl_fileNo.mono_of h hl a), hcnt, decide_eq_true hp, impl_fileNo.cmp_eq, he, decide_eq_true ((cmpB_eq _ _).2 rfl)]
  rfl
/-- The place behind the names that are below a. -/
theorem splitDisk (l : List S71) (h : srtDisk l) (a : ByteArray) : ∃ c, c ≤ l.length ∧ (∀ t, t < c → bl (l.getD t z71).f0 < bl a) ∧ (∀ t, c ≤ t → t < l.length → ¬ bl (l.getD t z71).f0 < bl a) := by
  have : ∀ n, n ≤ l.length → ∃ c, c ≤ n ∧ (∀ t, t < c → bl (l.getD t z71).f0 < bl a) ∧ (∀ t, c ≤ t → t < n → ¬ bl (l.getD t z71).f0 < bl a) := by
    intro n
    induction n with
    | zero => exact fun _ => ⟨0, by omega, fun t ht => by omega, fun t h1 h2 => by omega⟩
    | succ n ih =>
      intro hn
      obtain ⟨c, h1, h2, h3⟩ := ih (by omega)
      by_cases hc : bl (l.getD n z71).f0 < bl a
      · refine ⟨n + 1, by omega, fun t ht => ?_, fun t h1 h2 => by omega⟩
        by_cases e : t = n
        · rw [e]; exact hc
        · exact bl_trans (h t n (by omega) (by omega)) hc
      · refine ⟨c, by omega, h2, fun t h4 h5 => ?_⟩
        by_cases e : t = n
        · rw [e]; exact hc
        · exact h3 t h4 (by omega)
  exact this l.length (Nat.le_refl _)
theorem impl_fileNo.none_ {l : List S71} (h : srtDisk l) (hl : (l.length : Int) ≤ 1048576) (a : ByteArray) (hn : ∀ p, p < l.length → (l.getD p z71).f0 ≠ a) :
    ∃ c, c ≤ l.length ∧ impl_fileNo.f l a = some ((c : Int), false) ∧ (∀ t, t < c → bl (l.getD t z71).f0 < bl a) ∧ (∀ t, c ≤ t → t < l.length → bl a < bl (l.getD t z71).f0) := by
  obtain ⟨c, h1, h2, h3⟩ := splitDisk l h a
  have hcnt : impl_fileNo.cnt l a = c := impl_fileNo.cnt_eq c h1 (fun t ht => by
    rw [impl_fileNo.cmp_eq, cmpB_lt]
    exact h2 t ht) (fun t h4 h5 => Int.not_lt.1 fun hc => by
    rw [impl_fileNo.cmp_eq, cmpB_lt] at hc
    exact h3 t h4 h5 hc)
  refine ⟨c, h1, ?_, h2, fun t h4 h5 => ?_⟩
  · unfold impl_fileNo.f
    rw [if_pos (impl_fileNo.mono_of h hl a), hcnt]
    by_cases hc : c < l.length
    · rw [impl_fileNo.cmp_eq, decide_eq_false (p := Lib.compareBytes _ _ = 0) (fun e => hn c hc (bl_inj ((cmpB_eq _ _).1 e))), Bool.and_false]
    · rw [decide_eq_false hc, Bool.false_and]
  · rcases bl_tri (bl a) (bl (l.getD t z71).f0) with e | e | e
    · exact e
    · exact absurd (bl_inj e).symm (hn t h5)
    · exact absurd e (h3 t h4 h5)
theorem impl_copyDisk.is (l : List S71) (hs : l.length ≤ 1048576) : impl_copyDisk.f l = some l := by
  unfold impl_copyDisk.f
  rw [if_pos (by simp; omega), List.nil_append]
theorem impl_withFile.is (l : List S71) (h : srtDisk l) (hs : l.length ≤ 1048575) (a b : ByteArray) : impl_withFile.f l a b = some (putDisk l ⟨a, b⟩) := by
  unfold impl_withFile.f
  rw [impl_copyDisk.is l (by omega), Option.bind_some]
  rcases posDisk_cases l a l.length 0 with ⟨p, h1, h2, h3, h4⟩ | ⟨h1, h2⟩
  · have hp : p < l.length := by omega
    rw [impl_fileNo.found h (by omega) a p hp h3, Option.bind_some, if_pos rfl, if_pos (show (0 : Int) ≤ (p : Int) by omega), if_pos (show (p : Int) < (l.length : Int) by omega), putDisk_at h ⟨a, b⟩ p hp h3]
    have e : rd_T71 l (p : Int) = l.getD p z71 := rfl
    rw [e, h3]
    rfl
  · obtain ⟨c, hc, hf, h5, h6⟩ := impl_fileNo.none_ h (by omega) a (fun p hp => h1 p (by omega) (by omega))
    rw [hf, Option.bind_some, if_neg (show ¬ (false = true) by decide)]
    unfold impl_File_118.f
    rw [if_pos ⟨by omega, by omega, rfl, by omega⟩, Option.bind_some, putDisk_new ⟨a, b⟩ c hc h5 h6]
    rfl
theorem impl_without.is (l : List S71) (h : srtDisk l) (hs : l.length ≤ 1048575) (a : ByteArray) : impl_without.f l a = some (cutDisk l a) := by
  unfold impl_without.f
  rw [impl_copyDisk.is l (by omega), Option.bind_some]
  rcases posDisk_cases l a l.length 0 with ⟨p, h1, h2, h3, h4⟩ | ⟨h1, h2⟩
  · have hp : p < l.length := by omega
    rw [impl_fileNo.found h (by omega) a p hp h3, Option.bind_some, if_pos rfl, cutDisk_at h a p hp h3]
    have e : wrap64 ((p : Int) + 1) = (p : Int) + 1 := w64 (by omega) (by omega)
    unfold impl_File_119.f
    rw [e, if_pos ⟨by omega, rfl, by omega⟩, Option.bind_some]
    rfl
  · obtain ⟨c, hc, hf, h5, h6⟩ := impl_fileNo.none_ h (by omega) a (fun p hp => h1 p (by omega) (by omega))
    rw [hf, Option.bind_some, if_neg (show ¬ (false = true) by decide), cutDisk_none a (fun p hp => h1 p (by omega) (by omega))]
theorem impl_within.is (a lo hi : Int) : impl_within.f a lo hi = some (decide (lo ≤ a ∧ a ≤ hi)) := by
  unfold impl_within.f
  by_cases h : a ≥ lo
  · rw [if_pos h]
    congr 1
    simp only [decide_eq_decide]
    exact ⟨fun h' => ⟨h, h'⟩, fun h' => h'.2⟩
  · rw [if_neg h, decide_eq_false (fun h' => h h'.1)]
theorem impl_DiskOk.ev0 (l : List S71) (hs : l.length ≤ 1048576) (d : Nat) : ∀ (i : Nat), i + d = l.length →
    Ev (fun k => impl_DiskOk.l0 k l (l.length : Int) (i : Int) l) (allF (diskC l) d i && decide ((l.length : Int) ≤ 30)) := by
  induction d with
  | zero =>
    intro i hi
    refine ev_now fun k => ?_
    show impl_DiskOk.l0 (k + 1) _ _ _ _ = _
    rw [impl_DiskOk.l0, if_neg (by omega)]
    simp [allF]
  | succ d ih =>
    intro i hi
    have e0 : rd_T71 l (i : Int) = l.getD i z71 := rfl
    by_cases h1 : 1 ≤ ((l.getD i z71).f0.size : Int) ∧ ((l.getD i z71).f0.size : Int) ≤ 12
    · by_cases hv : ((l.getD i z71).f1.size : Int) ≤ 20000
      · by_cases h2 : i = 0
        · have hC : diskC l i = true := by simp only [diskC, decide_eq_true h1, decide_eq_true hv, decide_eq_true h2, Bool.true_or, Bool.and_true]
          simp only [allF, hC, Bool.true_and]
          refine Ev.step (fun k => ?_) (ih (i + 1) (by omega))
          show impl_DiskOk.l0 (k + 1) _ _ _ _ = impl_DiskOk.l0 k _ _ _ _
          rw [impl_DiskOk.l0, if_pos (by omega), if_pos (by omega), if_pos (by omega), e0, impl_within.is, decide_eq_true h1]
          simp only [Option.bind_some, if_true]
          rw [if_neg (by omega), if_neg (by omega), w64 (by omega) (by omega)]
          rfl
        · have e2 : Hd (wrap64 ((i : Int) - 1) = ((i - 1 : Nat) : Int)) := Hd.mk <| by rw [w64 (by omega) (by omega)]; omega
          have e1 : rd_T71 l ((i - 1 : Nat) : Int) = l.getD (i - 1) z71 := rfl
          by_cases h3 : Op.bytesLess (l.getD (i - 1) z71).f0.toList (l.getD i z71).f0.toList = true
          · have hC : diskC l i = true := by simp only [diskC, decide_eq_true h1, decide_eq_true hv, h3, Bool.or_true, Bool.and_true]
            simp only [allF, hC, Bool.true_and]
            refine Ev.step (fun k => ?_) (ih (i + 1) (by omega))
            show impl_DiskOk.l0 (k + 1) _ _ _ _ = impl_DiskOk.l0 k _ _ _ _
            rw [impl_DiskOk.l0, if_pos (by omega), if_pos (by omega), if_pos (by omega), e0, impl_within.is, decide_eq_true h1]
            simp only [Option.bind_some, if_true]
            rw [if_neg (by omega), if_pos (by omega), e2.out, if_pos (by omega), if_pos (by omega), e1, if_pos h3, w64 (x := (i : Int) + 1) (by omega) (by omega)]
            rfl
          · have hC : diskC l i = false := by simp only [diskC, decide_eq_true h1, decide_eq_true hv, Bool.eq_false_iff.2 h3, decide_eq_false h2, Bool.or_false, Bool.and_false]
            simp only [allF, hC, Bool.false_and]
            refine ev_now fun k => ?_
            show impl_DiskOk.l0 (k + 1) _ _ _ _ = _
            rw [impl_DiskOk.l0, if_pos (by omega), if_pos (by omega), if_pos (by omega), e0, impl_within.is, decide_eq_true h1]
            simp only [Option.bind_some, if_true]
            rw [if_neg (by omega), if_pos (by omega), e2.out, if_pos (by omega), if_pos (by omega), e1, if_neg h3]
      · have hC : diskC l i = false := by simp only [diskC, decide_eq_false hv, Bool.false_and, Bool.and_false]
        simp only [allF, hC, Bool.false_and]
        refine ev_now fun k => ?_
        show impl_DiskOk.l0 (k + 1) _ _ _ _ = _
        rw [impl_DiskOk.l0, if_pos (by omega), if_pos (by omega), if_pos (by omega), e0, impl_within.is, decide_eq_true h1]
        simp only [Option.bind_some, if_true]
        rw [if_pos (by omega)]
    · have hC : diskC l i = false := by simp only [diskC, decide_eq_false h1, Bool.false_and]
      simp only [allF, hC, Bool.false_and]
      refine ev_now fun k => ?_
      show impl_DiskOk.l0 (k + 1) _ _ _ _ = _
      rw [impl_DiskOk.l0, if_pos (by omega), if_pos (by omega), if_pos (by omega), e0, impl_within.is, decide_eq_false h1]
      simp
theorem impl_DiskOk.ev (l : List S71) (hs : l.length ≤ 1048576) : Ev (fun k => impl_DiskOk.f k l) (diskCOf l) := by
  unfold diskCOf
  obtain ⟨K, h⟩ := impl_DiskOk.ev0 l hs l.length 0 (by omega)
  rw [Bool.and_comm]
  exact ⟨K, fun k hk => h k hk⟩
theorem impl_FileAt.ev (l : List S71) (a : ByteArray) (hs : l.length ≤ 1048576) : Ev (fun k => impl_FileAt.f k l a) (diskGetOf l a) := by
  obtain ⟨K0, h0⟩ := impl_DiskOk.ev l hs
  dsimp only at h0
  refine ⟨K0, fun k hk => ?_⟩
  show impl_FileAt.f k _ _ = _
  unfold impl_FileAt.f diskGetOf
  rw [h0 k hk, Option.bind_some]
  by_cases hm : diskCOf l = true
  · obtain ⟨hsr, hml, _⟩ := diskC_srt hm
    rw [if_pos hm]
    rcases posDisk_cases l a l.length 0 with ⟨p, h1, h2, h3, h4⟩ | ⟨h1, h2⟩
    · rw [impl_fileNo.found hsr (by omega) a p (by omega) h3, Option.bind_some, if_pos rfl, if_pos (show (0 : Int) ≤ (p : Int) by omega), if_pos (show (p : Int) < (l.length : Int) by omega), if_pos ⟨hm, by omega⟩, h4]
      rfl
    · obtain ⟨c, _, hc, _⟩ := impl_fileNo.none_ hsr (by omega) a (fun p hp => h1 p (by omega) (by omega))
      rw [hc, Option.bind_some, if_neg (by simp), if_neg (fun h => by omega)]
  · rw [if_neg hm, if_neg (fun h => hm h.1)]
theorem impl_PutRaw.ev (l : List S71) (hs : l.length ≤ 1048576) (r : Rw) (hr : r.f3.size ≤ 140737488351232) : Ev (fun k => impl_PutRaw.f k l r.f0 r.f1 r.f2 r.f3) (putRawOf l r) := by
  obtain ⟨K0, h0⟩ := impl_DiskOk.ev l hs
  by_cases hm : diskCOf l = true
  rotate_left
  · dsimp only at h0
    refine ⟨K0, fun k hk => ?_⟩
    show impl_PutRaw.f k _ _ _ _ _ = _
    unfold impl_PutRaw.f putRawOf
    rw [h0 k hk, Option.bind_some, if_neg hm, if_neg (fun h => hm h.1)]
  obtain ⟨hsr, hml, _⟩ := diskC_srt hm
  obtain ⟨K1, h1⟩ := impl_FileAt.ev l r.f1 hs
  have hol := rawOut_len l r
  have hos := oldOf_size l r.f1 hm
  have hcl := cutDisk_len l r.f1
  obtain ⟨K2, h2⟩ := impl_DiskOk.ev (rawOut l r) (by omega)
  rw [diskGetOf_old l r.f1 hm] at h1
  dsimp only at h0 h1 h2
  refine ⟨K0 + K1 + K2, fun k hk => ?_⟩
  have h2' := h2 k (by omega)
  show impl_PutRaw.f k _ _ _ _ _ = _
  unfold impl_PutRaw.f putRawOf
  rw [h0 k (by omega), Option.bind_some, if_pos hm, h1 k (by omega), Option.bind_some]
  have fin : ∀ o : List S71, o = rawOut l r → (1 ≤ r.f0 ∧ r.f0 ≤ 4) → (0 ≤ posDisk l r.f1 l.length 0 ∨ r.f0 < 3) →
      ((impl_DiskOk.f k o).bind fun t => if t = true then some (o, true) else some (([] : List S71), false)) = some (if rawFits l r then (rawOut l r, true) else ([], false)) := fun o ho hk hp => by
    rw [ho, h2', Option.bind_some]
    by_cases hd : diskCOf (rawOut l r) = true
    · rw [if_pos hd, if_pos (show rawFits l r from ⟨hm, hk, hp, hd⟩)]
    · rw [if_neg hd, if_neg (fun h : rawFits l r => hd h.2.2.2)]
  have bad : ¬ (0 ≤ posDisk l r.f1 l.length 0 ∨ r.f0 < 3) → some (([] : List S71), false) = some (if rawFits l r then (rawOut l r, true) else ([], false)) := fun hn => by
    rw [if_neg (fun h : rawFits l r => hn h.2.2.1)]
  have nob : ∀ b : Bool, (if b = true then true else false) = b := fun b => by cases b <;> rfl
  by_cases e1 : r.f0 = 1
  · rw [if_pos e1, impl_withFile.is l hsr (by omega), Option.bind_some]
    exact fin _ (by unfold rawOut; rw [if_pos e1]) (by omega) (by omega)
  rw [if_neg e1]
  by_cases e2 : r.f0 = 2
  · rw [if_pos e2, if_pos (show (oldOf l r.f1).size + r.f3.size ≤ 9223372036854775807 by omega), impl_withFile.is l hsr (by omega), Option.bind_some]
    exact fin _ (by unfold rawOut; rw [if_neg e1, if_pos e2]) (by omega) (by omega)
  rw [if_neg e2]
  by_cases e3 : r.f0 = 3
  · rw [if_pos e3, impl_copyDisk.is l hs, Option.bind_some]
    by_cases et : r.f1 = r.f2
    · rw [if_pos (tl_eq.2 et)]
      by_cases hp : 0 ≤ posDisk l r.f1 l.length 0
      · rw [if_pos (decide_eq_true hp)]
        exact fin _ (by unfold rawOut; rw [if_neg e1, if_neg e2, if_pos e3, if_pos et.symm]) (by omega) (by omega)
      · rw [if_neg (by simpa using hp)]
        exact bad (by omega)
    · rw [if_neg (fun h => et (tl_eq.1 h)), impl_without.is l hsr (by omega), Option.bind_some, impl_withFile.is _ (cutDisk_srt hsr _) (by omega), Option.bind_some]
      by_cases hp : 0 ≤ posDisk l r.f1 l.length 0
      · rw [if_pos (decide_eq_true hp)]
        exact fin _ (by unfold rawOut; rw [if_neg e1, if_neg e2, if_pos e3, if_neg (fun h => et h.symm)]) (by omega) (by omega)
      · rw [if_neg (by simpa using hp)]
        exact bad (by omega)
  rw [if_neg e3]
  by_cases e4 : r.f0 = 4
  · rw [if_pos e4, impl_without.is l hsr (by omega), Option.bind_some]
    by_cases hp : 0 ≤ posDisk l r.f1 l.length 0
    · rw [if_pos (decide_eq_true hp)]
      exact fin _ (by unfold rawOut; rw [if_neg e1, if_neg e2, if_neg e3]) (by omega) (by omega)
    · rw [if_neg (by simpa using hp)]
      exact bad (by omega)
  · rw [if_neg e4, if_neg (fun h : rawFits l r => by have := h.2.1; omega)]
theorem impl_PutRaws.ev0 (rs : List S65) (hs : rs.length ≤ 1048576) (hx : ∀ x ∈ rs, x.f3.size ≤ 140737488351232) (d : Nat) : ∀ (i : Nat) (l : List S71), i + d = rs.length → l.length ≤ 1048576 →
    Ev (fun k => impl_PutRaws.l0 k rs rs (rs.length : Int) (i : Int) l) (runRaws ((rs.drop i).map rwOf) i l) := by
  induction d with
  | zero =>
    intro i l hi hl
    refine ev_now fun k => ?_
    show impl_PutRaws.l0 (k + 1) _ _ _ _ _ = _
    rw [impl_PutRaws.l0, if_neg (by omega), List.drop_eq_nil_of_le (by omega), List.map_nil, runRaws, show rs.length = i by omega]
  | succ d ih =>
    intro i l hi hl
    have hlt : i < rs.length := by omega
    have ew : Hd (wrap64 ((i : Int) + 1) = ((i + 1 : Nat) : Int)) := Hd.mk <| by rw [w64 (by omega) (by omega)]; rfl
    obtain ⟨K1, h1⟩ := impl_PutRaw.ev l hl (rwOf rs[i]) (hx _ (List.getElem_mem hlt))
    dsimp only [rwOf] at h1
    rw [List.drop_eq_getElem_cons hlt, List.map_cons, runRaws]
    by_cases hb : (putRawOf l (rwOf rs[i])).2 = true
    · obtain ⟨K2, h2⟩ := ih (i + 1) (putRawOf l (rwOf rs[i])).1 (by omega) (putRawOf_len _ _ hl)
      dsimp only at h2
      refine ⟨K1 + K2 + 1, fun k hk => ?_⟩
      obtain ⟨k, rfl⟩ : ∃ m, k = m + 1 := ⟨k - 1, by omega⟩
      show impl_PutRaws.l0 (k + 1) _ _ _ _ _ = _
      rw [impl_PutRaws.l0, if_pos (by omega), if_pos (by omega), if_pos (by omega), rdI_Raw rs i hlt, h1 k (by omega), Option.bind_some]
      rw [if_pos hb]
      show (if (putRawOf l (rwOf rs[i])).2 = true then _ else _) = _
      rw [if_pos hb, ew.out]
      exact h2 k (by omega)
    · refine ⟨K1 + 1, fun k hk => ?_⟩
      obtain ⟨k, rfl⟩ : ∃ m, k = m + 1 := ⟨k - 1, by omega⟩
      show impl_PutRaws.l0 (k + 1) _ _ _ _ _ = _
      rw [impl_PutRaws.l0, if_pos (by omega), if_pos (by omega), if_pos (by omega), rdI_Raw rs i hlt, h1 k (by omega), Option.bind_some]
      rw [if_neg hb]
      show (if (putRawOf l (rwOf rs[i])).2 = true then _ else _) = _
      rw [if_neg hb]
theorem impl_PutRaws.ev (l : List S71) (hl : l.length ≤ 1048576) (rs : List S65) (hs : rs.length ≤ 1048576) (hx : ∀ x ∈ rs, x.f3.size ≤ 140737488351232) : Ev (fun k => impl_PutRaws.f k l rs) (putRawsOf l (rs.map rwOf)) := by
  obtain ⟨K0, h0⟩ := impl_DiskOk.ev l hl
  obtain ⟨K1, h1⟩ := impl_PutRaws.ev0 rs hs hx rs.length 0 l (by omega) hl
  dsimp only at h0 h1
  refine ⟨K0 + K1 + 1, fun k hk => ?_⟩
  have h0' := h0 k (by omega)
  obtain ⟨k, rfl⟩ : ∃ m, k = m + 1 := ⟨k - 1, by omega⟩
  have h1' := h1 k (by omega)
  show impl_PutRaws.f (k + 1) _ _ = _
  unfold impl_PutRaws.f putRawsOf
  rw [h0', Option.bind_some, List.length_map]
  by_cases hm : diskCOf l = true
  · by_cases hc : rs.length ≤ 60
    · rw [if_pos hm, decide_eq_false (show ¬ ((rs.length : Int) > 60) by omega), impl_PutRaws.j0, if_neg (by simp), impl_copyDisk.is l hl, Option.bind_some, if_pos ⟨hm, hc⟩]
      exact h1'
    · rw [if_pos hm, decide_eq_true (show ((rs.length : Int) > 60) by omega), impl_PutRaws.j0, if_pos rfl, if_neg (fun h => hc h.2)]
  · rw [if_neg hm, impl_PutRaws.j0, if_pos rfl, if_neg (fun h => hm h.1)]
theorem impl_partMost.is (rs : List S65) (a : Int) (ha : 0 ≤ a) : impl_partMost.f rs a = some (roomOf rs a) := by
  obtain ⟨n, rfl⟩ := Int.eq_ofNat_of_zero_le ha
  have e : rd_T65 rs (n : Int) = rs.getD n z65 := rfl
  unfold impl_partMost.f roomOf
  by_cases h : (n : Int) ≥ (rs.length : Int)
  · rw [if_pos h, if_pos h]
  · rw [if_neg h, if_neg h, if_pos ha, if_pos (by omega), e, Int.toNat_natCast]
    by_cases h1 : (rs.getD n z65).f0 = 1
    · rw [if_pos h1, if_pos (Or.inl h1)]
    · by_cases h2 : (rs.getD n z65).f0 = 2
      · rw [if_neg h1, if_pos h2, if_pos (Or.inr h2)]
      · rw [if_neg h1, if_neg h2, if_neg (fun x => x.elim h1 h2)]
theorem impl_CutRaws.ev (l : List S71) (hl : l.length ≤ 1048576) (rs : List S65) (hs : rs.length ≤ 1048576) (hx : ∀ x ∈ rs, x.f3.size ≤ 140737488351232) (a b : Int) : Ev (fun k => impl_CutRaws.f k l rs a b) (cutRawsOf l rs a b) := by
  obtain ⟨K0, h0⟩ := impl_DiskOk.ev l hl
  dsimp only at h0
  unfold cutRawsOf
  have bad : ∀ k, impl_CutRaws.j0 (k + 1) rs a b true l = some ([], false) := fun k => by rw [impl_CutRaws.j0, if_pos rfl]
  by_cases hd : diskCOf l = true
  · by_cases hn : rs.length ≤ 60
    · by_cases ha : 0 ≤ a ∧ a ≤ (rs.length : Int)
      · by_cases hb : 0 ≤ b ∧ b ≤ roomOf rs a
        · obtain ⟨n, rfl⟩ := Int.eq_ofNat_of_zero_le ha.1
          have hlt : b > 0 → n < rs.length := fun h => by have := room_lt hb.2 h; omega
          have hcl := cutL_len rs n b
          obtain ⟨K1, h1⟩ := impl_PutRaws.ev l hl (cutL rs n b) (by omega) (cutL_size rs hx n b hlt)
          have hle := putRawsOf_le l ((cutL rs n b).map rwOf)
          rw [List.length_map] at hle
          dsimp only at h1
          have e : rd_T65 rs (n : Int) = rs.getD n z65 := rfl
          have fin : ∀ k, K1 ≤ k → ((impl_PutRaws.f k l (cutL rs n b)).bind fun bt => (if bt.2 < ((cutL rs n b).length : Int) then some ([], false) else some (bt.1, true))) = some (cutEnd (cutL rs n b).length (putRawsOf l ((cutL rs n b).map rwOf))) := fun k hk => by
            rw [h1 k hk, Option.bind_some]
            unfold cutEnd
            by_cases hc : (putRawsOf l ((cutL rs n b).map rwOf)).2 < ((cutL rs n b).length : Int)
            · rw [if_pos hc, if_neg (by omega)]
            · rw [if_neg hc, if_pos (by omega)]
          refine ⟨K0 + K1 + 1, fun k hk => ?_⟩
          have h0' := h0 k (by omega)
          obtain ⟨k, rfl⟩ : ∃ m, k = m + 1 := ⟨k - 1, by omega⟩
          show impl_CutRaws.f (k + 1) _ _ _ _ = _
          unfold impl_CutRaws.f
          rw [h0', Option.bind_some, if_pos hd, if_neg (by omega), impl_within.is, Option.bind_some, if_pos (decide_eq_true ha), impl_partMost.is rs _ ha.1, Option.bind_some, impl_within.is, Option.bind_some, decide_eq_true hb,
            impl_CutRaws.j0, if_neg (by decide), if_pos ha.1, if_pos ha.2, if_pos (show diskCOf l = true ∧ rs.length ≤ 60 ∧ (0 ≤ (n : Int) ∧ (n : Int) ≤ (rs.length : Int)) ∧ (0 ≤ b ∧ b ≤ roomOf rs (n : Int)) from ⟨hd, hn, ha, hb⟩), Int.toNat_natCast]
          have hr : impl_Raw.f (rs.take n) = some (rs.take n) := by
            unfold impl_Raw.f
            rw [if_pos (by rw [List.length_take]; omega)]
          rw [hr, Option.bind_some]
          have fin' := fin k (by omega)
          by_cases hp : b > 0
          · have hec : rs.take n ++ [(⟨(rs.getD n z65).f0, (rs.getD n z65).f1, (rs.getD n z65).f2, ((rs.getD n z65).f3).extract 0 b.toNat⟩ : S65)] = cutL rs n b := by
              unfold cutL
              rw [if_pos hp]
            have hrs := room_size hb.2 hp
            rw [Int.toNat_natCast] at hrs
            rw [if_pos hp, if_pos (by have := hlt hp; omega), if_pos hb.1, e, if_pos hrs, if_pos (by rw [List.length_take]; omega), hec, Option.bind_some]
            exact fin'
          · have hec : rs.take n = cutL rs n b := by
              unfold cutL
              rw [if_neg hp]
            rw [if_neg hp, hec]
            exact fin'
        · refine ⟨K0 + 1, fun k hk => ?_⟩
          have h0' := h0 k (by omega)
          obtain ⟨k, rfl⟩ : ∃ m, k = m + 1 := ⟨k - 1, by omega⟩
          show impl_CutRaws.f (k + 1) _ _ _ _ = _
          unfold impl_CutRaws.f
          rw [h0', Option.bind_some, if_pos hd, if_neg (by omega), impl_within.is, Option.bind_some, if_pos (decide_eq_true ha), impl_partMost.is rs _ ha.1, Option.bind_some, impl_within.is, Option.bind_some, decide_eq_false hb, if_neg (fun x => hb x.2.2.2)]
          exact bad k
      · refine ⟨K0 + 1, fun k hk => ?_⟩
        have h0' := h0 k (by omega)
        obtain ⟨k, rfl⟩ : ∃ m, k = m + 1 := ⟨k - 1, by omega⟩
        show impl_CutRaws.f (k + 1) _ _ _ _ = _
        unfold impl_CutRaws.f
        rw [h0', Option.bind_some, if_pos hd, if_neg (by omega), impl_within.is, Option.bind_some, if_neg (by rw [decide_eq_true_eq]; exact ha), if_neg (fun x => ha x.2.2.1), bad k]
    · refine ⟨K0 + 1, fun k hk => ?_⟩
      have h0' := h0 k (by omega)
      obtain ⟨k, rfl⟩ : ∃ m, k = m + 1 := ⟨k - 1, by omega⟩
      show impl_CutRaws.f (k + 1) _ _ _ _ = _
      unfold impl_CutRaws.f
      rw [h0', Option.bind_some, if_pos hd, if_pos (by omega), if_neg (fun x => hn x.2.1), bad k]
  · refine ⟨K0 + 1, fun k hk => ?_⟩
    have h0' := h0 k (by omega)
    obtain ⟨k, rfl⟩ : ∃ m, k = m + 1 := ⟨k - 1, by omega⟩
    show impl_CutRaws.f (k + 1) _ _ _ _ = _
    unfold impl_CutRaws.f
    rw [h0', Option.bind_some, if_neg hd, if_neg (fun x => hd x.1), bad k]
theorem laws_FnTorn.ev1 (rs : List S65) (p : List Int) (d : List S71) (i : Nat) (hi : i < rs.length) (a c : List S71) (hal : a.length ≤ 1048576) (hcl : c.length ≤ 1048576) (hc : diskCOf c = true) (hac : ∀ x, x ∈ a → x.f0 ≠ rs[i].f1 → x ∈ c) (hrl : rs.length ≤ 8)
    (next : Ev (fun k => laws_FnTorn.l0 k rs p ((i + 1 : Nat) : Int) d) true) (n : Nat) : ∀ j : Nat, j + n = a.length → Ev (fun k => laws_FnTorn.l1 k rs p (i : Int) (j : Int) d a c) true := by
  have ew : Hd (wrap64 ((i : Int) + 1) = ((i + 1 : Nat) : Int)) := Hd.mk <| by rw [w64 (by omega) (by omega)]; rfl
  induction n with
  | zero =>
    intro j hj
    refine Ev.step (fun k => ?_) next
    show laws_FnTorn.l1 (k + 1) _ _ _ _ _ _ _ = laws_FnTorn.l0 k _ _ _ _
    rw [laws_FnTorn.l1, if_neg (by omega), ew.out]
  | succ n ih =>
    intro j hj
    have hlt : j < a.length := by omega
    have ej : Hd (wrap64 ((j : Int) + 1) = ((j + 1 : Nat) : Int)) := Hd.mk <| by rw [w64 (by omega) (by omega)]; rfl
    obtain ⟨K1, h1⟩ := impl_FileAt.ev c a[j].f0 hcl
    obtain ⟨K2, h2⟩ := ih (j + 1) (by omega)
    dsimp only at h1 h2
    refine ⟨K1 + K2 + 1, fun k hk => ?_⟩
    obtain ⟨k, rfl⟩ : ∃ m, k = m + 1 := ⟨k - 1, by omega⟩
    show laws_FnTorn.l1 (k + 1) _ _ _ _ _ _ _ = _
    rw [laws_FnTorn.l1, if_pos (by omega), if_pos (by omega), rdI_File a j hlt, h1 k (by omega), Option.bind_some, if_pos (by omega), if_pos (by omega), rdI_Raw rs i hi]
    by_cases he : a[j].f0 = rs[i].f1
    · rw [if_pos (by rw [he]), ej.out]
      exact h2 k (by omega)
    · have hm := diskGet_mem hc a[j] (hac _ (List.getElem_mem hlt) he)
      rw [if_neg (fun x => he (tl_eq.1 x)), hm]
      dsimp only
      rw [if_pos rfl, if_pos rfl, ej.out]
      exact h2 k (by omega)
theorem laws_FnTorn.ev0 (p : List Int) (hp1 : p.length = 12) (hp2 : ∀ x ∈ p, 0 ≤ x ∧ x < 10000) (d : List S71) (rs : List S65) (hd : diskCOf d = true) (hdl : d.length ≤ 1048576) (hrl : rs.length ≤ 8) (hx : ∀ x ∈ rs, x.f3.size ≤ 5000) (e : List S71) (he : chainR (rs.map rwOf) d = some e) (n : Nat) :
    ∀ i : Nat, i + n = rs.length → Ev (fun k => laws_FnTorn.l0 k rs p (i : Int) d) true := by
  have hxs : ∀ x ∈ rs, x.f3.size ≤ 140737488351232 := fun x hm => by have := hx x hm; omega
  have heo := chain_ok _ d e hd he
  have small : ∀ {m : List S71}, diskCOf m = true → m.length ≤ 1048576 := fun h => by have := (diskC_srt h).2.1; omega
  have puts : ∀ q, q ≤ rs.length → ∃ f, chainR ((rs.map rwOf).take q) d = some f ∧ diskCOf f = true ∧ putRawsOf d ((rs.take q).map rwOf) = (f, (q : Int)) := fun q hq => by
    obtain ⟨f, hf⟩ := chain_take he q
    have hfo := chain_ok _ d f hd hf
    refine ⟨f, hf, hfo, ?_⟩
    rw [← List.map_take] at hf
    rw [chain_puts hd (by rw [List.length_map, List.length_take]; omega) hf, List.length_map, List.length_take, Nat.min_eq_left hq]
  induction n with
  | zero =>
    intro i hi
    obtain ⟨K1, h1⟩ := impl_PutRaws.ev d hdl rs (by omega) hxs
    obtain ⟨K2, h2⟩ := impl_DiskOk.ev e (small heo)
    have hput := chain_puts hd (by rw [List.length_map]; omega) he
    rw [List.length_map] at hput
    dsimp only at h1 h2
    refine ⟨K1 + K2 + 1, fun k hk => ?_⟩
    obtain ⟨k, rfl⟩ : ∃ m, k = m + 1 := ⟨k - 1, by omega⟩
    show laws_FnTorn.l0 (k + 1) _ _ _ _ = _
    rw [laws_FnTorn.l0, if_neg (by omega), h1 k (by omega), hput, Option.bind_some, if_pos rfl, h2 k (by omega), Option.bind_some, heo]
  | succ n ih =>
    intro i hi
    have hlt : i < rs.length := by omega
    have ew : Hd (wrap64 ((i : Int) + 1) = ((i + 1 : Nat) : Int)) := Hd.mk <| by rw [w64 (by omega) (by omega)]; rfl
    have next := ih (i + 1) (by omega)
    have hskip : ∀ b : Bool, b = true → Ev (fun k => laws_FnTorn.j1 k rs p (i : Int) b d) true := fun b hb => by
      subst hb
      refine Ev.step (fun k => ?_) next
      show laws_FnTorn.j1 (k + 1) _ _ _ _ _ = laws_FnTorn.l0 k _ _ _ _
      rw [laws_FnTorn.j1, if_pos rfl, ew.out]
    by_cases hkind : rs[i].f0 > 2
    · refine Ev.step (fun k => ?_) (hskip true rfl)
      show laws_FnTorn.l0 (k + 1) _ _ _ _ = laws_FnTorn.j1 k _ _ _ _ _
      rw [laws_FnTorn.l0, if_pos (by omega), if_pos (by omega), rdI_Raw rs i hlt, if_pos hkind]
    · by_cases hz : rs[i].f3.size = 0
      · refine Ev.step (fun k => ?_) (hskip true rfl)
        show laws_FnTorn.l0 (k + 1) _ _ _ _ = laws_FnTorn.j1 k _ _ _ _ _
        rw [laws_FnTorn.l0, if_pos (by omega), if_pos (by omega), rdI_Raw rs i hlt, if_neg hkind, hz]
        rfl
      · obtain ⟨b, hb1, hb2, hb3⟩ := puts i (by omega)
        obtain ⟨a, ha1, ha2, ha3⟩ := puts (i + 1) (by omega)
        obtain ⟨s1, s2⟩ := chain_step he i (by rw [List.length_map]; exact hlt) hb1
        rw [List.getElem_map] at s1 s2
        obtain ⟨r, hr⟩ : ∃ r, r = rwOf rs[i] := ⟨_, rfl⟩
        rw [← hr] at s1 s2
        have hr0 : r.f0 = rs[i].f0 := by rw [hr]; rfl
        have hr1 : r.f1 = rs[i].f1 := by rw [hr]; rfl
        have hr3 : r.f3 = rs[i].f3 := by rw [hr]; rfl
        have hfit : rawFits b r := by
          unfold putRawOf at s1
          by_cases hf : rawFits b r
          · exact hf
          · rw [if_neg hf] at s1
            cases s1
        have hpo : putRawOf b r = (rawOut b r, true) := by unfold putRawOf; rw [if_pos hfit]
        have haeq : a = rawOut b r := by
          rw [hpo] at s2
          rw [s2] at ha1
          exact (Option.some.inj ha1).symm
        have hk12 : r.f0 = 1 ∨ r.f0 = 2 := by have := hfit.2.1; omega
        have hout := raw_out2 b r hk12
        rw [hout] at haeq
        obtain ⟨m, hm, hm12⟩ : ∃ m : Nat, Hd (Int.tmod (i : Int) 12 = (m : Int)) ∧ m < 12 := ⟨i % 12, Hd.mk <| by rw [show (12 : Int) = ((12 : Nat) : Int) from rfl, tmod_nat], by omega⟩
        have hpm : 0 ≤ rd p (m : Int) := by
          have : rd p (m : Int) = p[m]'(by omega) := by
            show p.getD m 0 = _
            simp [List.getD_eq_getElem?_getD, List.getElem?_eq_getElem (show m < p.length by omega)]
          rw [this]
          exact (hp2 _ (List.getElem_mem _)).1
        have ht := tmod_in hpm (show (0 : Int) < (rs[i].f3.size : Int) by omega)
        obtain ⟨u, hu0⟩ := Int.eq_ofNat_of_zero_le ht.1
        rw [hu0] at ht
        have hu := Hd.mk hu0
        clear hu0
        have hsz := hx _ (List.getElem_mem hlt)
        have hpart : Hd (wrap64 (1 + (u : Int)) = ((1 + u : Nat) : Int)) := Hd.mk <| by rw [w64 (by omega) (by omega)]; rfl
        -- the cut
        obtain ⟨q, hq⟩ : ∃ q : Rw, q = ⟨r.f0, r.f1, r.f2, r.f3.extract 0 (1 + u)⟩ := ⟨_, rfl⟩
        have hq3 : q.f3.size = 1 + u := by
          rw [hq]
          show (r.f3.extract 0 (1 + u)).size = _
          rw [ByteArray.size_extract, hr3]
          omega
        have hq12 : q.f0 = 1 ∨ q.f0 = 2 := by rw [hq]; exact hk12
        have hpre : preOf b q = preOf b r := by rw [hq]; rfl
        have hq1 : q.f1 = r.f1 := by rw [hq]
        have hqout := raw_out2 b q hq12
        rw [hpre, hq1] at hqout
        have hcok : diskCOf (rawOut b q) = true := by
          rw [hqout]
          have h4 := hfit.2.2.2
          rw [hout] at h4
          refine put_less hb2 h4 _ ?_
          rw [ByteArray.size_append, ByteArray.size_append, hq3, hr3]
          omega
        have hqfit : rawFits b q := ⟨hb2, by rw [hq]; exact hfit.2.1, Or.inr (by omega), hcok⟩
        have hqput : putRawOf b q = (rawOut b q, true) := by unfold putRawOf; rw [if_pos hqfit]
        obtain ⟨c, hc⟩ : ∃ c, c = rawOut b q := ⟨_, rfl⟩
        have hroom : roomOf rs (i : Int) = (rs[i].f3.size : Int) := by
          unfold roomOf
          rw [if_neg (by omega), Int.toNat_natCast, show rs.getD i z65 = rs[i] by simp [List.getD_eq_getElem?_getD, List.getElem?_eq_getElem hlt], if_pos (by omega)]
        have hcl : cutL rs i ((1 + u : Nat) : Int) = rs.take i ++ [⟨rs[i].f0, rs[i].f1, rs[i].f2, rs[i].f3.extract 0 (1 + u)⟩] := by
          unfold cutL
          rw [if_pos (by omega), Int.toNat_natCast, show rs.getD i z65 = rs[i] by simp [List.getD_eq_getElem?_getD, List.getElem?_eq_getElem hlt]]
        have hcm : (cutL rs i ((1 + u : Nat) : Int)).map rwOf = (rs.map rwOf).take i ++ [q] := by
          rw [hcl, List.map_append, List.map_take, hq, hr]
          rfl
        have hcut : cutRawsOf d rs (i : Int) ((1 + u : Nat) : Int) = (c, true) := by
          have hch := chain_snoc hb1 q (by rw [hqput])
          rw [hqput] at hch
          unfold cutRawsOf
          rw [if_pos ⟨hd, by omega, ⟨by omega, by omega⟩, by omega, by rw [hroom]; omega⟩, Int.toNat_natCast, hcm, chain_puts hd (by simp; omega) hch]
          unfold cutEnd
          rw [hcl, hc]
          simp
        rw [← hc] at hqout hcok
        have hcx : (⟨r.f1, preOf b r ++ q.f3⟩ : S71) ∈ c := by rw [hqout]; exact (mem_putDisk b _ _).2 (Or.inl rfl)
        have hax : (⟨r.f1, preOf b r ++ r.f3⟩ : S71) ∈ a := by rw [haeq]; exact (mem_putDisk b _ _).2 (Or.inl rfl)
        have gx : diskGetOf c rs[i].f1 = (preOf b r ++ q.f3, true) := by rw [← hr1]; exact diskGet_mem hcok _ hcx
        have gy : diskGetOf a rs[i].f1 = (preOf b r ++ r.f3, true) := by rw [← hr1]; exact diskGet_mem ha2 _ hax
        have gz := diskGetOf_old b rs[i].f1 hb2
        have hac : ∀ x, x ∈ a → x.f0 ≠ rs[i].f1 → x ∈ c := fun x hxa hne => by
          rw [haeq] at hxa
          rcases (mem_putDisk b _ x).1 hxa with rfl | ⟨h3, h4⟩
          · exact absurd hr1 hne
          · rw [hqout]
            exact (mem_putDisk b _ x).2 (Or.inr ⟨h3, h4⟩)
        have hbeg : laws_begins.f (preOf b r ++ q.f3) (preOf b r ++ r.f3) = some true := by
          have h5 : r.f3 = q.f3 ++ r.f3.extract (1 + u) r.f3.size := by
            rw [hq]
            exact (cut_app r.f3 (1 + u) (by rw [hr3]; omega)).symm
          have h6 : preOf b r ++ r.f3 = (preOf b r ++ q.f3) ++ r.f3.extract (1 + u) r.f3.size := by
            conv => lhs; rw [h5]
            rw [ByteArray.append_assoc]
          rw [h6]
          exact begins_is _ _
        have hne0 : (((preOf b r ++ q.f3).size : Int) == 0) = false := by
          rw [beq_eq_false_iff_ne, ByteArray.size_append, hq3]
          omega
        obtain ⟨K1, h1⟩ := impl_PutRaws.ev d hdl (rs.take i) (by rw [List.length_take]; omega) (fun x hm => hxs x (List.mem_of_mem_take hm))
        obtain ⟨K2, h2⟩ := impl_PutRaws.ev d hdl (rs.take (i + 1)) (by rw [List.length_take]; omega) (fun x hm => hxs x (List.mem_of_mem_take hm))
        obtain ⟨K3, h3⟩ := impl_CutRaws.ev d hdl rs (by omega) hxs (i : Int) ((1 + u : Nat) : Int)
        obtain ⟨K4, h4⟩ := impl_FileAt.ev c rs[i].f1 (small hcok)
        obtain ⟨K5, h5⟩ := impl_FileAt.ev a rs[i].f1 (small ha2)
        obtain ⟨K6, h6⟩ := impl_FileAt.ev b rs[i].f1 (small hb2)
        obtain ⟨K7, h7⟩ := laws_FnTorn.ev1 rs p d i hlt a c (small ha2) (small hcok) hcok hac hrl next a.length 0 (by omega)
        dsimp only at h1 h2 h3 h4 h5 h6 h7
        refine ⟨K1 + K2 + K3 + K4 + K5 + K6 + K7 + 4, fun k hk => ?_⟩
        obtain ⟨k, rfl⟩ : ∃ m, k = m + 4 := ⟨k - 4, by omega⟩
        show laws_FnTorn.l0 (k + 3 + 1) _ _ _ _ = _
        rw [laws_FnTorn.l0, if_pos (by omega), if_pos (by omega), rdI_Raw rs i hlt, if_neg hkind, show ((rs[i].f3.size : Int) == 0) = false by rw [beq_eq_false_iff_ne]; omega,
          laws_FnTorn.j1, if_neg (by decide), hm.out, if_pos (by omega), if_pos (by omega), if_pos (by omega), if_pos (by omega), rdI_Raw rs i hlt, if_neg (by omega), if_pos (by omega), Int.toNat_natCast, h1 _ (by omega), hb3, Option.bind_some,
          ew.out, if_pos (by omega), if_pos (by omega), Int.toNat_natCast, h2 _ (by omega), ha3, Option.bind_some, hu.out, hpart.out, h3 _ (by omega), hcut, Option.bind_some, if_pos rfl, bne_self_eq_false,
          laws_FnTorn.j2, if_neg (by decide), if_pos (by omega), if_pos (by omega), rdI_Raw rs i hlt, h4 _ (by omega), gx, Option.bind_some, h5 _ (by omega), gy, Option.bind_some, h6 _ (by omega), gz, Option.bind_some]
        dsimp only
        rw [hbeg, Option.bind_some, if_pos rfl, hne0]
        have fin : laws_FnTorn.j3 (k + 1) rs p (i : Int) false d a c = some true := by
          rw [laws_FnTorn.j3, if_neg (by decide)]
          exact h7 k (by omega)
        by_cases h2k : rs[i].f0 = 2
        · have hp2' : preOf b r = oldOf b rs[i].f1 := by
            unfold preOf
            rw [if_neg (by omega), hr1]
          rw [if_pos h2k, hp2', begins_is, Option.bind_some, if_pos rfl]
          exact fin
        · rw [if_neg h2k]
          exact fin
theorem FnTorn : ∀ (l0 : List Int), (l0.length ≤ maxLen ∧ ∀ y ∈ l0, (Lit.int .u8 y).wf = true) → ∃ k, laws_FnTorn.f k l0 = some true := by
  intro l _
  by_cases hbig : (l.length : Int) > 1048576
  · refine ⟨0, ?_⟩
    unfold laws_FnTorn.f laws_big.f
    rw [Option.bind_some, if_pos (decide_eq_true hbig)]
  obtain ⟨d, rs, ⟨K0, h0⟩, hd, hdl, hrl, hx, e, he⟩ := spec_DrawRightDisk.ev l (by omega)
  obtain ⟨p, ⟨K1, h1⟩, hp1, hp2⟩ := spec_DrawPlaces.ev l (by omega)
  obtain ⟨K2, h2⟩ := laws_FnTorn.ev0 p hp1 hp2 d rs hd hdl hrl hx e he rs.length 0 (by omega)
  dsimp only at h0 h1 h2
  refine ⟨K0 + K1 + K2, ?_⟩
  unfold laws_FnTorn.f laws_big.f
  rw [Option.bind_some, if_neg (by rw [decide_eq_false hbig]; simp), h0 _ (by omega), Option.bind_some]
  dsimp only
  rw [h1 _ (by omega), Option.bind_some]
  exact h2 _ (by omega)

end Go.Proofs.Ytpjhbhjmaggheaa.Pure
