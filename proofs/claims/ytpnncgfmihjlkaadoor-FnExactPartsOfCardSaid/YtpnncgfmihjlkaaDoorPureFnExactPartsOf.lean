/- The law FnExactPartsOf, over numbers and lists: for every input that the statement speaks of the printed function answers true; conditions: those of the printed statement. -/
import Derived.Test.YtpnncgfmihjlkaaDoorQFnExactPartsOfx1
import Derived.Test.YtpnncgfmihjlkaaDoorQFnExactPartsOfx2
import Derived.Laws.BitsAllLaws
import Derived.Sort.Walk0
import Derived.Lib.Bytealg
namespace Go.Proofs.YtpnncgfmihjlkaaDoor.Pure
open Go.RowKit Go.Proofs.YtpnncgfmihjlkaaDoor.QFnExactPartsOf Go.Proofs.YtpnncgfmihjlkaaDoorW.PrintWords Go.Proofs.YtpnncgfmihjlkaaDoorW.PrintLast Go.Proofs.YtpnncgfmihjlkaaDoorW.PrintMore
set_option linter.unusedVariables false
set_option linter.unusedSimpArgs false

/-! ### strings as lists of bytes -/
def mk (l : List UInt8) : ByteArray := ⟨l.toArray⟩
def nm (l : List UInt8) : List Int := l.map fun b => (b.toNat : Int)
theorem mk_of (s : ByteArray) : ∃ l, s = mk l := ⟨s.data.toList, rfl⟩
theorem mk_data (l : List UInt8) : (mk l).data.toList = l := rfl
theorem mk_toList (l : List UInt8) : (mk l).toList = l := by rw [ByteArray.toList_eq]; rfl
theorem mk_size (l : List UInt8) : (mk l).size = l.length := List.size_toArray
theorem mk_inj {a b : List UInt8} (h : mk a = mk b) : a = b := by rw [← mk_data a, h]; rfl
theorem mk_append (a b : List UInt8) : mk a ++ mk b = mk (a ++ b) := by
  apply ByteArray.ext
  rw [ByteArray.data_append]
  simp [mk]
theorem mk_extract (l : List UInt8) (i j : Nat) : (mk l).extract i j = mk ((l.drop i).take (j - i)) := by
  apply ByteArray.ext
  rw [ByteArray.data_extract]
  apply Array.ext'
  simp [mk, List.take_drop]
theorem mk_nil : (⟨#[]⟩ : ByteArray) = mk [] := rfl
theorem nm_append (a b : List UInt8) : nm (a ++ b) = nm a ++ nm b := by simp [nm]
theorem nm_length (a : List UInt8) : (nm a).length = a.length := by simp [nm]
theorem nm_nil : ([] : List Int) = nm [] := rfl
theorem strOf_nm (l : List UInt8) : strOfNums (nm l) = mk l := by
  unfold strOfNums nm mk
  rw [List.map_map]
  congr 1
  have : ∀ l : List UInt8, List.map ((fun n : Int => UInt8.ofNat n.toNat) ∘ fun b : UInt8 => (b.toNat : Int)) l = l := by
    intro l
    induction l with
    | nil => rfl
    | cons a l ih => rw [List.map_cons, ih]; simp
  rw [this]
theorem bt_mk (l : List UInt8) (n : Nat) (h : n < l.length) : bt (mk l) (n : Int) = ((l[n]).toNat : Int) := by
  unfold bt
  rw [dif_pos (show (n : Int).toNat < (mk l).size by rw [mk_size]; omega)]
  rfl
/-- A fact that omega doesn't look into. -/
structure Hd (p : Prop) : Prop where
  mk :: (out : p)
theorem w64 {x : Int} (h0 : -9223372036854775808 ≤ x) (h1 : x ≤ 9223372036854775807) : wrap64 x = x := by
  unfold wrap64
  omega
theorem nm_u8 (n : Nat) (h : n < 256) : nm [UInt8.ofNat n] = [(n : Int)] := by
  simp [nm]
  omega
theorem tmod_nat (x d : Nat) : Int.tmod (x : Int) (d : Int) = ((x % d : Nat) : Int) := by
  rw [Int.tmod_eq_emod_of_nonneg (by omega)]
  exact (Int.natCast_emod x d).symm
theorem tdiv_nat (x d : Nat) : Int.tdiv (x : Int) (d : Int) = ((x / d : Nat) : Int) := by
  rw [Int.tdiv_eq_ediv_of_nonneg (by omega)]
  exact (Int.natCast_ediv x d).symm
theorem drop_cons (l : List UInt8) (i : Nat) (h : i < l.length) : l.drop i = l[i] :: l.drop (i + 1) := List.drop_eq_getElem_cons h
/-- C holds at i, i + 1, .., d of them. -/
def allF (C : Nat → Bool) : Nat → Nat → Bool
  | 0, _ => true
  | d + 1, i => C i && allF C d (i + 1)
theorem allF_congr {C D : Nat → Bool} (d : Nat) : ∀ i, (∀ j, i ≤ j → j < i + d → C j = D j) → allF C d i = allF D d i := by
  induction d with
  | zero => intro i h; rfl
  | succ d ih =>
    intro i h
    simp only [allF]
    rw [h i (by omega) (by omega), ih (i + 1) (fun j h1 h2 => h j (by omega) (by omega))]
theorem allF_true {C : Nat → Bool} (d : Nat) : ∀ i, allF C d i = true ↔ ∀ j, i ≤ j → j < i + d → C j = true := by
  induction d with
  | zero => intro i; simp only [allF, true_iff]; intro j h1 h2; omega
  | succ d ih =>
    intro i
    simp only [allF, Bool.and_eq_true, ih]
    constructor
    · rintro ⟨h1, h2⟩ j h3 h4
      by_cases e : j = i
      · rw [e]; exact h1
      · exact h2 j (by omega) (by omega)
    · intro h
      exact ⟨h i (by omega) (by omega), fun j h1 h2 => h j (by omega) (by omega)⟩
theorem ev_now {α : Type} {g : Nat → Option α} {r : α} (h : ∀ k, g (k + 1) = some r) : Ev g r :=
  ⟨1, fun k hk => by obtain ⟨m, rfl⟩ : ∃ m, k = m + 1 := ⟨k - 1, by omega⟩; exact h m⟩
/-! ### the words of a line -/
def okB (b : UInt8) : Bool := decide (32 ≤ b.toNat ∧ b.toNat ≤ 126)
def finP (out : List ByteArray) : List ByteArray × Bool := if out.length > 10 then ([], false) else (out, true)
def partsOf (l : List UInt8) : List ByteArray × Bool := if l.length ≤ 600 ∧ l.all okB = true then finP ((Lib.fields l).map mk) else ([], false)
theorem finP_len (o : List ByteArray) : (finP o).1.length ≤ 10 := by
  unfold finP
  split
  · simp
  · show o.length ≤ 10
    omega
theorem partsOf_len (l : List UInt8) : (partsOf l).1.length ≤ 10 := by
  unfold partsOf
  split
  · exact finP_len _
  · simp
theorem isSp_ok {b : UInt8} (h : okB b = true) : Lib.isSp b = decide (b.toNat = 32) := by
  unfold okB at h
  rw [decide_eq_true_eq] at h
  have e : ∀ n : Nat, n < 256 → (b == UInt8.ofNat n) = decide (b.toNat = n) := fun n hn => by
    have hi : (b == UInt8.ofNat n) = true ↔ b.toNat = n := by
      rw [beq_iff_eq]
      constructor
      · rintro rfl
        simp
        omega
      · intro hb
        apply UInt8.toNat_inj.1
        rw [hb]
        simp
        omega
    by_cases hb : b.toNat = n
    · rw [decide_eq_true hb]
      exact hi.2 hb
    · rw [decide_eq_false hb]
      exact Bool.eq_false_iff.2 (fun h => hb (hi.1 h))
  have e9 := e 9 (by omega)
  have e10 := e 10 (by omega)
  have e11 := e 11 (by omega)
  have e12 := e 12 (by omega)
  have e13 := e 13 (by omega)
  have e32 := e 32 (by omega)
  rw [decide_eq_false (by omega)] at e9 e10 e11 e12 e13
  show (b == UInt8.ofNat 9 || b == UInt8.ofNat 10 || b == UInt8.ofNat 11 || b == UInt8.ofNat 12 || b == UInt8.ofNat 13 || b == UInt8.ofNat 32) = _
  rw [e9, e10, e11, e12, e13, e32]
  rfl
theorem cntF_le : ∀ (l : List UInt8) (b : Bool), Lib.cntF b l ≤ l.length
  | [], _ => Nat.le_refl _
  | x :: t, b => by
    have := cntF_le t (Lib.isSp x)
    simp only [Lib.cntF, List.length_cons]
    split <;> omega
theorem drop_all {l : List UInt8} (i : Nat) (h : i < l.length) : (l.drop i).all okB = (okB l[i] && (l.drop (i + 1)).all okB) := by
  rw [List.drop_eq_getElem_cons h, List.all_cons]
theorem spec_PartsOf.fin (l : List UInt8) (hs : l.length ≤ 600) (acc : List ByteArray) (k n : Nat) : spec_PartsOf.l0 (k + 1) (mk l) acc (n : Int) ((l.length + 1 : Nat) : Int) = some (finP acc) := by
  rw [spec_PartsOf.l0, if_neg (by rw [mk_size]; omega)]
  unfold finP
  by_cases hc : acc.length > 10
  · rw [if_pos hc, if_pos (by omega)]
  · rw [if_neg hc, if_neg (by omega)]
theorem spec_PartsOf.ev0 (l : List UInt8) (hs : l.length ≤ 600) (d : Nat) : ∀ (i b : Nat) (cur : List UInt8) (acc : List ByteArray), i + d = l.length → b + cur.length = i → (l.drop b).take (i - b) = cur → acc.length ≤ i →
    Ev (fun k => spec_PartsOf.l0 k (mk l) acc (b : Int) (i : Int)) (if (l.drop i).all okB = true then finP (acc ++ (Lib.fieldsGo cur (l.drop i)).map mk) else ([], false)) := by
  induction d with
  | zero =>
    intro i b cur acc hi hb hcur hacc
    have ew : Hd (wrap64 ((i : Int) + 1) = ((l.length + 1 : Nat) : Int)) := Hd.mk <| by rw [w64 (by omega) (by omega)]; omega
    refine ⟨4, fun k hk => ?_⟩
    obtain ⟨k, rfl⟩ : ∃ m, k = m + 4 := ⟨k - 4, by omega⟩
    show spec_PartsOf.l0 (k + 3 + 1) _ _ _ _ = _
    rw [spec_PartsOf.l0, if_pos (by rw [mk_size]; omega), if_neg (by rw [mk_size]; omega), spec_PartsOf.j1, if_neg (by decide), if_neg (by rw [mk_size]; omega), spec_PartsOf.j2, if_neg (by decide), List.drop_eq_nil_of_le (by omega), if_pos (show ([] : List UInt8).all okB = true from rfl)]
    by_cases hc : b < i
    · have hne : cur.isEmpty = false := by
        cases cur with
        | nil => simp at hb; omega
        | cons _ _ => rfl
      rw [if_pos (by omega), if_pos (by omega), if_pos (by omega), if_pos (by rw [mk_size]; omega), if_pos (by omega), ew.out, spec_PartsOf.fin l hs _ k (l.length + 1), Lib.fieldsGo, hne, if_neg (by decide), mk_extract, Int.toNat_natCast, Int.toNat_natCast, hcur]
      rfl
    · have hne : cur.isEmpty = true := by
        cases cur with
        | nil => rfl
        | cons _ _ => simp at hb; omega
      rw [if_neg (by omega), ew.out, spec_PartsOf.fin l hs _ k (l.length + 1), Lib.fieldsGo, hne, if_pos rfl, List.map_nil, List.append_nil]
  | succ d ih =>
    intro i b cur acc hi hb hcur hacc
    have hlt : i < l.length := by omega
    have hbt : bt (mk l) (i : Int) = (l[i].toNat : Int) := bt_mk l i hlt
    have h256 : l[i].toNat < 256 := l[i].toNat_lt
    have ew : Hd (wrap64 ((i : Int) + 1) = ((i + 1 : Nat) : Int)) := Hd.mk <| by rw [w64 (by omega) (by omega)]; rfl
    rw [drop_all i hlt]
    by_cases hc : okB l[i] = true
    · rw [hc, Bool.true_and]
      have hsp := isSp_ok hc
      have hc2 := hc
      unfold okB at hc2
      rw [decide_eq_true_eq] at hc2
      by_cases h32 : l[i].toNat = 32
      · rw [decide_eq_true h32] at hsp
        by_cases hlt2 : b < i
        · have hne : cur.isEmpty = false := by
            cases cur with
            | nil => simp at hb; omega
            | cons _ _ => rfl
          obtain ⟨K, h⟩ := ih (i + 1) (i + 1) [] (acc ++ [mk cur]) (by omega) rfl (by simp) (by simp; omega)
          dsimp only at h
          refine ⟨K + 3, fun k hk => ?_⟩
          obtain ⟨k, rfl⟩ : ∃ m, k = m + 3 := ⟨k - 3, by omega⟩
          show spec_PartsOf.l0 (k + 2 + 1) _ _ _ _ = _
          rw [spec_PartsOf.l0, if_pos (by rw [mk_size]; omega), if_pos (by rw [mk_size]; omega), if_pos (by omega), hbt, if_neg (by omega), spec_PartsOf.j1, if_neg (by rw [decide_eq_true_eq]; omega), if_pos (by rw [mk_size]; omega), if_pos (by omega), hbt,
            show ((l[i].toNat : Int) != 32) = false by rw [h32]; rfl, spec_PartsOf.j2, if_neg (by decide), if_pos (by omega), if_pos (by omega), if_pos (by omega), if_pos (by rw [mk_size]; omega), if_pos (by omega), ew.out, mk_extract, Int.toNat_natCast, Int.toNat_natCast, hcur, h k (by omega)]
          rw [List.drop_eq_getElem_cons hlt, Lib.fieldsGo, hsp, if_pos rfl, hne, if_neg (show ¬ (false = true) by decide), List.map_cons, List.append_assoc, List.singleton_append]
        · have hne : cur.isEmpty = true := by
            cases cur with
            | nil => rfl
            | cons _ _ => simp at hb; omega
          obtain ⟨K, h⟩ := ih (i + 1) (i + 1) [] acc (by omega) rfl (by simp) (by omega)
          dsimp only at h
          refine ⟨K + 3, fun k hk => ?_⟩
          obtain ⟨k, rfl⟩ : ∃ m, k = m + 3 := ⟨k - 3, by omega⟩
          show spec_PartsOf.l0 (k + 2 + 1) _ _ _ _ = _
          rw [spec_PartsOf.l0, if_pos (by rw [mk_size]; omega), if_pos (by rw [mk_size]; omega), if_pos (by omega), hbt, if_neg (by omega), spec_PartsOf.j1, if_neg (by rw [decide_eq_true_eq]; omega), if_pos (by rw [mk_size]; omega), if_pos (by omega), hbt,
            show ((l[i].toNat : Int) != 32) = false by rw [h32]; rfl, spec_PartsOf.j2, if_neg (by decide), if_neg (by omega), ew.out, h k (by omega)]
          rw [List.drop_eq_getElem_cons hlt, Lib.fieldsGo, hsp, if_pos rfl, hne, if_pos rfl]
      · rw [decide_eq_false h32] at hsp
        obtain ⟨K, h⟩ := ih (i + 1) b (cur ++ [l[i]]) acc (by omega) (by simp; omega) (by
          rw [show i + 1 - b = (i - b) + 1 by omega, List.take_succ_eq_append_getElem (by simp; omega), hcur]
          congr 2
          rw [List.getElem_drop]
          congr 1
          omega) (by omega)
        dsimp only at h
        refine ⟨K + 3, fun k hk => ?_⟩
        obtain ⟨k, rfl⟩ : ∃ m, k = m + 3 := ⟨k - 3, by omega⟩
        show spec_PartsOf.l0 (k + 2 + 1) _ _ _ _ = _
        rw [spec_PartsOf.l0, if_pos (by rw [mk_size]; omega), if_pos (by rw [mk_size]; omega), if_pos (by omega), hbt, if_neg (by omega), spec_PartsOf.j1, if_neg (by rw [decide_eq_true_eq]; omega), if_pos (by rw [mk_size]; omega), if_pos (by omega), hbt,
          show ((l[i].toNat : Int) != 32) = true by rw [bne_iff_ne]; omega, spec_PartsOf.j2, if_pos rfl, ew.out, h k (by omega)]
        rw [List.drop_eq_getElem_cons hlt, Lib.fieldsGo, hsp, if_neg (show ¬ (false = true) by decide)]
    · rw [Bool.eq_false_iff.2 hc, Bool.false_and, if_neg (by simp)]
      unfold okB at hc
      rw [decide_eq_true_eq] at hc
      refine ⟨2, fun k hk => ?_⟩
      obtain ⟨k, rfl⟩ : ∃ m, k = m + 2 := ⟨k - 2, by omega⟩
      show spec_PartsOf.l0 (k + 1 + 1) _ _ _ _ = _
      rw [spec_PartsOf.l0, if_pos (by rw [mk_size]; omega), if_pos (by rw [mk_size]; omega), if_pos (by omega), hbt]
      by_cases hlo : l[i].toNat < 32
      · rw [if_pos (by omega), spec_PartsOf.j1, if_pos rfl]
      · rw [if_neg (by omega), spec_PartsOf.j1, if_pos (decide_eq_true (by omega))]
theorem spec_PartsOf.ev (l : List UInt8) (hs : l.length ≤ 1048576) : Ev (fun k => spec_PartsOf.f k (mk l)) (partsOf l) := by
  unfold partsOf
  by_cases h : l.length ≤ 600
  · obtain ⟨K, hK⟩ := spec_PartsOf.ev0 l h l.length 0 0 [] [] (by omega) rfl (by simp) (by simp)
    dsimp only at hK
    refine ⟨K, fun k hk => ?_⟩
    show spec_PartsOf.f k _ = _
    unfold spec_PartsOf.f
    rw [Option.bind_some, if_neg (by rw [mk_size]; omega)]
    refine (hK k hk).trans ?_
    rw [List.drop_zero, List.nil_append]
    congr 1
    by_cases ha : l.all okB = true
    · rw [if_pos ha, if_pos ⟨h, ha⟩]
      rfl
    · rw [if_neg ha, if_neg (fun x => ha x.2)]
  · refine ⟨0, fun k hk => ?_⟩
    show spec_PartsOf.f k _ = _
    unfold spec_PartsOf.f
    rw [Option.bind_some, if_pos (by rw [mk_size]; omega), if_neg (fun x => h x.1)]
theorem impl_within.is (a lo hi : Int) : impl_within.f a lo hi = some (decide (lo ≤ a ∧ a ≤ hi)) := by
  unfold impl_within.f
  by_cases h : a ≥ lo
  · rw [if_pos h]
    congr 1
    simp only [decide_eq_decide]
    exact ⟨fun h' => ⟨h, h'⟩, fun h' => h'.2⟩
  · rw [if_neg h, decide_eq_false (fun h' => h h'.1)]
theorem impl_PartsOf.ev0 (l : List UInt8) (hs : l.length ≤ 600) (hall : (l.take 0).all okB = true) (d : Nat) : ∀ i : Nat, i + d = l.length → (l.take i).all okB = true →
    Ev (fun k => impl_PartsOf.l0 k (mk l) (i : Int)) (if (l.drop i).all okB = true then finP ((Lib.fields l).map mk) else ([], false)) := by
  induction d with
  | zero =>
    intro i hi ht
    have hcl := cntF_le l true
    have hf : strings_Fields.f (mk l) = some ((Lib.fields l).map mk) := by
      unfold strings_Fields.f
      have hasc : (l.all fun b => decide (b.toNat < 128)) = true := by
        rw [List.take_of_length_le (by omega)] at ht
        rw [List.all_eq_true] at ht ⊢
        intro b hb
        have := ht b hb
        unfold okB at this
        rw [decide_eq_true_eq] at this
        exact decide_eq_true (by omega)
      rw [mk_data, if_pos ⟨⟨by rw [mk_size]; omega, by rw [Lib.fields_length]; omega⟩, hasc⟩]
      rfl
    refine ev_now fun k => ?_
    show impl_PartsOf.l0 (k + 1) _ _ = _
    rw [impl_PartsOf.l0, if_neg (by rw [mk_size]; omega), hf, Option.bind_some, List.drop_eq_nil_of_le (by omega), if_pos (show ([] : List UInt8).all okB = true from rfl)]
    unfold finP
    by_cases hc : ((Lib.fields l).map mk).length > 10
    · rw [if_pos hc, if_pos (by omega)]
    · rw [if_neg hc, if_neg (by omega)]
  | succ d ih =>
    intro i hi ht
    have hlt : i < l.length := by omega
    have hb : bt (mk l) (i : Int) = (l[i].toNat : Int) := bt_mk l i hlt
    have h256 : l[i].toNat < 256 := l[i].toNat_lt
    have ew : Hd (wrap64 ((i : Int) + 1) = ((i + 1 : Nat) : Int)) := Hd.mk <| by rw [w64 (by omega) (by omega)]; rfl
    rw [drop_all i hlt]
    by_cases hc : okB l[i] = true
    · rw [hc, Bool.true_and]
      refine Ev.step (fun k => ?_) (ih (i + 1) (by omega) ?_)
      · show impl_PartsOf.l0 (k + 1) _ _ = impl_PartsOf.l0 k _ _
        unfold okB at hc
        rw [decide_eq_true_eq] at hc
        rw [impl_PartsOf.l0, if_pos (by rw [mk_size]; omega), if_pos (by omega), hb, w64 (by omega) (by omega), impl_within.is, Option.bind_some, if_pos (decide_eq_true (by omega)), ew.out]
      · rw [List.take_succ_eq_append_getElem hlt, List.all_append, ht, Bool.true_and, List.all_cons, hc]
        rfl
    · rw [Bool.eq_false_iff.2 hc, Bool.false_and, if_neg (by simp)]
      refine ev_now fun k => ?_
      show impl_PartsOf.l0 (k + 1) _ _ = _
      unfold okB at hc
      rw [decide_eq_true_eq] at hc
      rw [impl_PartsOf.l0, if_pos (by rw [mk_size]; omega), if_pos (by omega), hb, w64 (by omega) (by omega), impl_within.is, Option.bind_some, if_neg (by rw [decide_eq_true_eq]; omega)]
theorem impl_PartsOf.ev (l : List UInt8) (hs : l.length ≤ 1048576) : Ev (fun k => impl_PartsOf.f k (mk l)) (partsOf l) := by
  unfold partsOf
  by_cases h : l.length ≤ 600
  · obtain ⟨K, hK⟩ := impl_PartsOf.ev0 l h rfl l.length 0 (by omega) rfl
    dsimp only at hK
    refine ⟨K, fun k hk => ?_⟩
    show impl_PartsOf.f k _ = _
    unfold impl_PartsOf.f
    rw [if_neg (by rw [mk_size]; omega)]
    refine (hK k hk).trans ?_
    rw [List.drop_zero]
    congr 1
    by_cases ha : l.all okB = true
    · rw [if_pos ha, if_pos ⟨h, ha⟩]
    · rw [if_neg ha, if_neg (fun x => ha x.2)]
  · refine ⟨0, fun k hk => ?_⟩
    show impl_PartsOf.f k _ = _
    unfold impl_PartsOf.f
    rw [if_pos (by rw [mk_size]; omega), if_neg (fun x => h x.1)]
theorem rdS_nat (l : List ByteArray) (n : Nat) (h : n < l.length) : rdOf ByteArray.empty l (n : Int) = l[n] := by
  show l.getD n ByteArray.empty = _
  simp [List.getD_eq_getElem?_getD, List.getElem?_eq_getElem h]
theorem toList_inj {a b : ByteArray} : a.toList = b.toList ↔ a = b := by
  constructor
  · intro h
    rw [ByteArray.toList_eq, ByteArray.toList_eq] at h
    exact ByteArray.ext (Array.ext' h)
  · rintro rfl; rfl
theorem laws_eqStringS.ev0 (a : List ByteArray) (hs : a.length ≤ 8796093022208) (d : Nat) : ∀ (i : Nat), i + d = a.length → Ev (fun k => laws_eqStringS.l0 k a a (i : Int)) true := by
  induction d with
  | zero =>
    intro i hi
    refine ev_now fun k => ?_
    show laws_eqStringS.l0 (k + 1) _ _ _ = _
    rw [laws_eqStringS.l0, if_neg (by omega)]
  | succ d ih =>
    intro i hi
    refine Ev.step (fun k => ?_) (ih (i + 1) (by omega))
    show laws_eqStringS.l0 (k + 1) _ _ _ = laws_eqStringS.l0 k _ _ _
    rw [laws_eqStringS.l0, if_pos (by omega), if_pos (by omega), if_pos (by omega), if_pos rfl, w64 (by omega) (by omega)]
    rfl
theorem laws_eqStringS.ev (a : List ByteArray) (hs : a.length ≤ 8796093022208) : Ev (fun k => laws_eqStringS.f k a a) true := by
  obtain ⟨K, h⟩ := laws_eqStringS.ev0 a hs a.length 0 (by omega)
  dsimp only at h
  refine ⟨K, fun k hk => ?_⟩
  show laws_eqStringS.f k _ _ = _
  unfold laws_eqStringS.f
  rw [if_pos rfl]
  exact h k hk
/-- The decimal figures of k ahead of acc, with the letter m ahead. -/
def mtL : Nat → Nat → List UInt8 → List UInt8
  | 0, _, acc => 109 :: acc
  | f + 1, k, acc => if 0 < k then mtL f (k / 10) (UInt8.ofNat (48 + k % 10) :: acc) else 109 :: acc
def mtOf (k : Int) : ByteArray := if k ≤ 0 then mk [109, 48] else mk (mtL 20 k.toNat [])
theorem laws_markText.ev0 (f : Nat) : ∀ (n : Nat) (acc : List UInt8), n < 10 ^ f → n ≤ 9223372036854775807 → f + acc.length ≤ 100 → Ev (fun k => laws_markText.l0 k (n : Int) (mk acc)) (mk (mtL f n acc)) := by
  induction f with
  | zero =>
    intro n acc hn hn2 hl
    have hsz := mk_size acc
    refine ⟨1, fun k hk => ?_⟩
    obtain ⟨k, rfl⟩ : ∃ m, k = m + 1 := ⟨k - 1, by omega⟩
    show laws_markText.l0 (k + 1) _ _ = _
    rw [laws_markText.l0, if_neg (by simp at hn; omega), if_pos (by omega), show (⟨#[109]⟩ : ByteArray) = mk [109] from rfl, mk_append]
    rfl
  | succ f ih =>
    intro n acc hn hn2 hl
    have hsz := mk_size acc
    by_cases h : 0 < n
    · have e1 : Hd (Int.tmod (n : Int) 10 = ((n % 10 : Nat) : Int)) := Hd.mk <| tmod_nat n 10
      have e2 : Hd (Int.tdiv (n : Int) 10 = ((n / 10 : Nat) : Int)) := Hd.mk <| tdiv_nat n 10
      have e3 : Hd (([(wrap64 (48 + ((n % 10 : Nat) : Int))) % 256] : List Int) = nm [UInt8.ofNat (48 + n % 10)]) := Hd.mk <| by
        rw [nm_u8 _ (by omega), w64 (by omega) (by omega)]
        congr 1
        omega
      have hd : n / 10 < 10 ^ f := by
        rw [Nat.pow_succ] at hn
        omega
      rw [mtL, if_pos h]
      refine Ev.step (fun k => ?_) (ih (n / 10) (UInt8.ofNat (48 + n % 10) :: acc) hd (by omega) (by simp; omega))
      show laws_markText.l0 (k + 1) _ _ = laws_markText.l0 k _ _
      rw [laws_markText.l0, if_pos (by omega), e1.out, e2.out, e3.out, Option.bind_some, strOf_nm, if_pos (by rw [mk_size]; simp; omega), mk_append]
      congr 1
      exact w64 (by omega) (by omega)
    · rw [mtL, if_neg h]
      refine ⟨1, fun k hk => ?_⟩
      obtain ⟨k, rfl⟩ : ∃ m, k = m + 1 := ⟨k - 1, by omega⟩
      show laws_markText.l0 (k + 1) _ _ = _
      rw [laws_markText.l0, if_neg (by omega), if_pos (by omega), show (⟨#[109]⟩ : ByteArray) = mk [109] from rfl, mk_append]
      rfl
theorem laws_markText.ev (n : Int) (h : n ≤ 9223372036854775807) : Ev (fun k => laws_markText.f k n) (mtOf n) := by
  unfold mtOf
  by_cases h0 : n ≤ 0
  · rw [if_pos h0]
    refine ⟨0, fun k _ => ?_⟩
    show laws_markText.f k _ = _
    unfold laws_markText.f
    rw [if_pos h0]
    rfl
  · rw [if_neg h0]
    obtain ⟨m, rfl⟩ := Int.eq_ofNat_of_zero_le (show 0 ≤ n by omega)
    obtain ⟨K, hK⟩ := laws_markText.ev0 20 m [] (by omega) (by omega) (by simp)
    refine ⟨K, fun k hk => ?_⟩
    show laws_markText.f k _ = _
    unfold laws_markText.f
    rw [if_neg h0]
    exact hK k hk
/-- What a marked list is: place i has the mark k + i. -/
def msL (k : Nat) : List ByteArray → List ByteArray
  | [] => []
  | _ :: l => mtOf (k : Int) :: msL (k + 1) l
theorem msL_length : ∀ (l : List ByteArray) (k : Nat), (msL k l).length = l.length
  | [], _ => rfl
  | _ :: l, k => by simp [msL, msL_length l (k + 1)]
theorem laws_markStringS.ev0 (d : Nat) : ∀ (i n : Nat) (x : List ByteArray), i + d = x.length → n + d ≤ 4611686018427387904 → x.length ≤ 8796093022208 →
    Ev (fun k => laws_markStringS.l0 k x (n : Int) (i : Int)) (((n + d : Nat) : Int), x.take i ++ msL n (x.drop i)) := by
  induction d with
  | zero =>
    intro i n x hi hn hx
    refine ⟨1, fun k hk => ?_⟩
    obtain ⟨k, rfl⟩ : ∃ m, k = m + 1 := ⟨k - 1, by omega⟩
    show laws_markStringS.l0 (k + 1) _ _ _ = _
    rw [laws_markStringS.l0, if_neg (by omega), List.drop_eq_nil_of_le (by omega), List.take_of_length_le (by omega)]
    simp [msL]
  | succ d ih =>
    intro i n x hi hn hx
    obtain ⟨K1, h1⟩ := laws_markText.ev (n : Int) (by omega)
    obtain ⟨K2, h2⟩ := ih (i + 1) (n + 1) (x.set i (mtOf (n : Int))) (by simp; omega) (by omega) (by simp; omega)
    dsimp only at h1 h2
    refine ⟨K1 + K2 + 1, fun k hk => ?_⟩
    obtain ⟨k, rfl⟩ : ∃ m, k = m + 1 := ⟨k - 1, by omega⟩
    show laws_markStringS.l0 (k + 1) _ _ _ = _
    rw [laws_markStringS.l0, if_pos (by omega), h1 k (by omega), Option.bind_some, if_pos (by omega), w64 (by omega) (by omega), w64 (by omega) (by omega)]
    have := h2 k (by omega)
    rw [show (n : Int) + 1 = ((n + 1 : Nat) : Int) from rfl, show (i : Int) + 1 = ((i + 1 : Nat) : Int) from rfl, Int.toNat_natCast, this]
    congr 2
    · omega
    · rw [List.drop_eq_getElem_cons (show i < x.length by omega), msL, List.take_succ_eq_append_getElem (by simp; omega), List.drop_set_of_lt (by omega), List.take_set_of_le (by omega)]
      simp
theorem laws_markStringS.ev (l : List ByteArray) (hs : l.length ≤ 8796093022208) : Ev (fun k => laws_markStringS.f k l 1) (((1 + l.length : Nat) : Int), msL 1 l) := by
  obtain ⟨K, h⟩ := laws_markStringS.ev0 l.length 0 1 l (by omega) (by omega) hs
  dsimp only at h
  refine ⟨K, fun k hk => ?_⟩
  show laws_markStringS.f k _ _ = _
  unfold laws_markStringS.f
  have := h k hk
  simpa using this
theorem laws_heldStringS.ev0 (l : List ByteArray) (d : Nat) : ∀ (i n : Nat) (x : List ByteArray), i + d = x.length → n + d ≤ 4611686018427387904 → x.length ≤ 8796093022208 → (∃ y : List ByteArray, x.drop i = msL n y) →
    Ev (fun k => laws_heldStringS.l0 k x (n : Int) (i : Int)) ((n + d : Nat) : Int) := by
  induction d with
  | zero =>
    intro i n x hi hn hx hy
    refine ⟨1, fun k hk => ?_⟩
    obtain ⟨k, rfl⟩ : ∃ m, k = m + 1 := ⟨k - 1, by omega⟩
    show laws_heldStringS.l0 (k + 1) _ _ _ = _
    rw [laws_heldStringS.l0, if_neg (by omega)]
    rfl
  | succ d ih =>
    intro i n x hi hn hx hy
    obtain ⟨y, hy⟩ := hy
    have hlt : i < x.length := by omega
    rw [List.drop_eq_getElem_cons hlt] at hy
    cases y with
    | nil => exact absurd hy (List.cons_ne_nil _ _)
    | cons y0 y =>
      rw [msL, List.cons_eq_cons] at hy
      obtain ⟨K1, h1⟩ := laws_markText.ev (n : Int) (by omega)
      obtain ⟨K2, h2⟩ := ih (i + 1) (n + 1) x (by omega) (by omega) hx ⟨y, hy.2⟩
      dsimp only at h1 h2
      refine ⟨K1 + K2 + 1, fun k hk => ?_⟩
      obtain ⟨k, rfl⟩ : ∃ m, k = m + 1 := ⟨k - 1, by omega⟩
      show laws_heldStringS.l0 (k + 1) _ _ _ = _
      rw [laws_heldStringS.l0, if_pos (by omega), if_pos (by omega), h1 k (by omega), Option.bind_some, rdS_nat x i hlt, if_pos (toList_inj.2 hy.1), w64 (by omega) (by omega), w64 (by omega) (by omega)]
      have := h2 k (by omega)
      rw [show (n : Int) + 1 = ((n + 1 : Nat) : Int) from rfl, show (i : Int) + 1 = ((i + 1 : Nat) : Int) from rfl, this]
      congr 1
      omega
theorem laws_heldStringS.ev (l : List ByteArray) (hs : l.length ≤ 8796093022208) : Ev (fun k => laws_heldStringS.f k (msL 1 l) 1) ((1 + l.length : Nat) : Int) := by
  have hl := msL_length l 1
  obtain ⟨K, h⟩ := laws_heldStringS.ev0 l l.length 0 1 (msL 1 l) (by omega) (by omega) (by omega) ⟨l, rfl⟩
  exact ⟨K, fun k hk => h k hk⟩
theorem FnExactPartsOf : ∀ (a0 : ByteArray), (a0.size ≤ maxLen) → ∃ k, laws_FnExactPartsOf.f k a0 = some true := by
  intro s hs
  obtain ⟨l, rfl⟩ := mk_of s
  have hsz := mk_size l
  by_cases hc : ((mk l).size : Int) > 1048576
  · refine ⟨0, ?_⟩
    unfold laws_FnExactPartsOf.f
    rw [if_pos hc]
  have hl := partsOf_len l
  obtain ⟨K1, h1⟩ := spec_PartsOf.ev l (by omega)
  obtain ⟨K2, h2⟩ := impl_PartsOf.ev l (by omega)
  obtain ⟨K3, h3⟩ := laws_eqStringS.ev (partsOf l).1 (by omega)
  obtain ⟨K4, h4⟩ := laws_markStringS.ev (partsOf l).1 (by omega)
  obtain ⟨K5, h5⟩ := laws_heldStringS.ev (partsOf l).1 (by omega)
  dsimp only at h1 h2 h3 h4 h5
  refine ⟨K1 + K2 + K3 + K4 + K5 + 2, ?_⟩
  unfold laws_FnExactPartsOf.f
  rw [if_neg hc, h1 _ (by omega), Option.bind_some, h2 _ (by omega), Option.bind_some, h3 _ (by omega), Option.bind_some, if_pos rfl, bne_self_eq_false, laws_FnExactPartsOf.j0, if_neg (by simp),
    h4 _ (by omega), Option.bind_some]
  dsimp only
  rw [h5 _ (by omega), Option.bind_some, if_neg (by omega), if_pos rfl, h2 _ (by omega), Option.bind_some, h3 _ (by omega), Option.bind_some, if_pos rfl, bne_self_eq_false, laws_FnExactPartsOf.j1, if_neg (by simp),
    h5 _ (by omega), Option.bind_some, if_neg (by omega), if_pos rfl]

end Go.Proofs.YtpnncgfmihjlkaaDoor.Pure
