/- The law FnExactUnhex, over numbers and lists: for every input that the statement speaks of the printed function answers true; conditions: those of the printed statement. -/
import Derived.Test.YtgmddhdlgbaagaaQFnExactUnhexx1
import Derived.Laws.BitsAllLaws
namespace Go.Proofs.Ytgmddhdlgbaagaa.Pure
open Go.RowKit Go.Proofs.Ytgmddhdlgbaagaa.QFnExactUnhex Go.Proofs.YtgmddhdlgbaagaaW.PrintWords Go.Proofs.YtgmddhdlgbaagaaW.PrintLast Go.Proofs.YtgmddhdlgbaagaaW.PrintMore
set_option linter.unusedVariables false
set_option linter.unusedSimpArgs false

/-! ### strings as lists of bytes -/
def mk (l : List UInt8) : ByteArray := ⟨l.toArray⟩
def nm (l : List UInt8) : List Int := l.map fun b => (b.toNat : Int)
theorem mk_of (s : ByteArray) : ∃ l, s = mk l := ⟨s.data.toList, rfl⟩
theorem mk_data (l : List UInt8) : (mk l).data.toList = l := rfl
theorem mk_toList (l : List UInt8) : (mk l).toList = l := by rw [ByteArray.toList_eq]; rfl
theorem mk_size (l : List UInt8) : (mk l).size = l.length := List.size_toArray
theorem mk_inj {a b : List UInt8} (h : mk a = mk b) : a = b := by rw [← mk_data a, h]; rfl
theorem mk_append (a b : List UInt8) : mk a ++ mk b = mk (a ++ b) := by
  apply ByteArray.ext
  rw [ByteArray.data_append]
  simp [mk]
theorem mk_extract (l : List UInt8) (i j : Nat) : (mk l).extract i j = mk ((l.drop i).take (j - i)) := by
  apply ByteArray.ext
  rw [ByteArray.data_extract]
  apply Array.ext'
  simp [mk, List.take_drop]
theorem mk_nil : (⟨#[]⟩ : ByteArray) = mk [] := rfl
theorem nm_append (a b : List UInt8) : nm (a ++ b) = nm a ++ nm b := by simp [nm]
theorem nm_length (a : List UInt8) : (nm a).length = a.length := by simp [nm]
theorem nm_nil : ([] : List Int) = nm [] := rfl
theorem strOf_nm (l : List UInt8) : strOfNums (nm l) = mk l := by
  unfold strOfNums nm mk
  rw [List.map_map]
  congr 1
  have : ∀ l : List UInt8, List.map ((fun n : Int => UInt8.ofNat n.toNat) ∘ fun b : UInt8 => (b.toNat : Int)) l = l := by
    intro l
    induction l with
    | nil => rfl
    | cons a l ih => rw [List.map_cons, ih]; simp
  rw [this]
theorem bt_mk (l : List UInt8) (n : Nat) (h : n < l.length) : bt (mk l) (n : Int) = ((l[n]).toNat : Int) := by
  unfold bt
  rw [dif_pos (show (n : Int).toNat < (mk l).size by rw [mk_size]; omega)]
  rfl
/-- A fact that omega doesn't look into. -/
structure Hd (p : Prop) : Prop where
  mk :: (out : p)
theorem w64 {x : Int} (h0 : -9223372036854775808 ≤ x) (h1 : x ≤ 9223372036854775807) : wrap64 x = x := by
  unfold wrap64
  omega
theorem nm_u8 (n : Nat) (h : n < 256) : nm [UInt8.ofNat n] = [(n : Int)] := by
  simp [nm]
  omega
theorem tmod_nat (x d : Nat) : Int.tmod (x : Int) (d : Int) = ((x % d : Nat) : Int) := by
  rw [Int.tmod_eq_emod_of_nonneg (by omega)]
  exact (Int.natCast_emod x d).symm
theorem tdiv_nat (x d : Nat) : Int.tdiv (x : Int) (d : Int) = ((x / d : Nat) : Int) := by
  rw [Int.tdiv_eq_ediv_of_nonneg (by omega)]
  exact (Int.natCast_ediv x d).symm
theorem drop_cons (l : List UInt8) (i : Nat) (h : i < l.length) : l.drop i = l[i] :: l.drop (i + 1) := List.drop_eq_getElem_cons h
/-- A figure's value, below 0 when it is none. -/
def hvN (n : Nat) : Int := if 48 ≤ n ∧ n ≤ 57 then (n : Int) - 48 else if 97 ≤ n ∧ n ≤ 102 then (n : Int) - 87 else -1
theorem hvN_le (n : Nat) : -1 ≤ hvN n ∧ hvN n ≤ 15 := by
  unfold hvN
  split
  · omega
  · split <;> omega
def uhL : List UInt8 → Option (List UInt8)
  | a :: b :: l => if hvN a.toNat < 0 ∨ hvN b.toNat < 0 then none else match uhL l with
    | none => none
    | some t => some (UInt8.ofNat (16 * (hvN a.toNat).toNat + (hvN b.toNat).toNat) :: t)
  | _ => some []
def uhR (acc : List UInt8) : Option (List UInt8) → ByteArray × Bool
  | none => (mk [], false)
  | some t => (mk (acc ++ t), true)
def unhexOf (l : List UInt8) : ByteArray × Bool := if l.length % 2 = 1 ∨ l.length > 40000 then (mk [], false) else uhR [] (uhL l)
theorem uhR_cons (acc : List UInt8) (a b : UInt8) (l : List UInt8) (h : ¬ (hvN a.toNat < 0 ∨ hvN b.toNat < 0)) : uhR acc (uhL (a :: b :: l)) = uhR (acc ++ [UInt8.ofNat (16 * (hvN a.toNat).toNat + (hvN b.toNat).toNat)]) (uhL l) := by
  rw [uhL, if_neg h]
  cases uhL l with
  | none => rfl
  | some t => simp [uhR]
theorem uhR_bad (acc : List UInt8) (a b : UInt8) (l : List UInt8) (h : hvN a.toNat < 0 ∨ hvN b.toNat < 0) : uhR acc (uhL (a :: b :: l)) = (mk [], false) := by
  rw [uhL, if_pos h]
  rfl
theorem unhex_byte (x y : Int) (h0 : 0 ≤ x) (h1 : x ≤ 15) (h2 : 0 ≤ y) (h3 : y ≤ 15) : [(wrap64 ((wrap64 (16 * x)) + y)) % 256] = nm [UInt8.ofNat (16 * x.toNat + y.toNat)] := by
  rw [nm_u8 _ (by omega), w64 (x := 16 * x) (by omega) (by omega), w64 (by omega) (by omega)]
  congr 1
  omega
theorem spec_l01Value.is (k : Nat) (c : UInt8) : spec_l01Value.f (k + 1) (c.toNat : Int) = some (hvN c.toNat) := by
  have hc := c.toNat_lt
  unfold spec_l01Value.f hvN
  by_cases h : 48 ≤ c.toNat ∧ c.toNat ≤ 57
  · rw [if_pos (by omega), decide_eq_true (show (c.toNat : Int) ≤ 57 by omega), spec_l01Value.j0, if_pos rfl, if_pos h, w64 (x := (c.toNat : Int)) (by omega) (by omega), w64 (by omega) (by omega)]
  · have e : (if (c.toNat : Int) ≥ 48 then spec_l01Value.j0 (k + 1) (c.toNat : Int) (decide ((c.toNat : Int) ≤ 57)) else spec_l01Value.j0 (k + 1) (c.toNat : Int) false) = spec_l01Value.j0 (k + 1) (c.toNat : Int) false := by
      split
      · rw [decide_eq_false (by omega)]
      · rfl
    rw [e, spec_l01Value.j0, if_neg (by simp), if_neg h]
    by_cases h2 : 97 ≤ c.toNat ∧ c.toNat ≤ 102
    · rw [if_pos (by omega), if_pos (by omega), if_pos h2, w64 (x := (c.toNat : Int)) (by omega) (by omega), w64 (x := (c.toNat : Int) - 97) (by omega) (by omega), w64 (by omega) (by omega)]
      congr 1
      omega
    · rw [if_neg h2]
      by_cases h3 : (c.toNat : Int) ≥ 97
      · rw [if_pos h3, if_neg (by omega)]
      · rw [if_neg h3]
theorem spec_Unhex.ev0 (l : List UInt8) (hs : l.length ≤ 40000) (d : Nat) : ∀ (i : Nat) (acc : List UInt8), i + 2 * d = l.length → acc.length ≤ i → Ev (fun k => spec_Unhex.l0 k (mk l) (nm acc) (i : Int)) (uhR acc (uhL (l.drop i))) := by
  have hsz := mk_size l
  induction d with
  | zero =>
    intro i acc hi ha
    refine ⟨1, fun k hk => ?_⟩
    obtain ⟨k, rfl⟩ : ∃ m, k = m + 1 := ⟨k - 1, by omega⟩
    show spec_Unhex.l0 (k + 1) _ _ _ = _
    rw [spec_Unhex.l0, if_neg (by omega), List.drop_eq_nil_of_le (by omega), strOf_nm]
    simp [uhL, uhR]
  | succ d ih =>
    intro i acc hi ha
    have h1 : i < l.length := by omega
    have h2 : i + 1 < l.length := by omega
    have e1 : Hd (wrap64 ((i : Int) + 1) = ((i + 1 : Nat) : Int)) := Hd.mk <| by rw [w64 (by omega) (by omega)]; rfl
    have e2 : Hd (wrap64 ((i : Int) + 2) = ((i + 2 : Nat) : Int)) := Hd.mk <| by rw [w64 (by omega) (by omega)]; rfl
    rw [drop_cons l i h1, drop_cons l (i + 1) h2]
    have va := hvN_le (l[i]).toNat
    have vb := hvN_le (l[i + 1]).toNat
    by_cases hb : hvN (l[i]).toNat < 0 ∨ hvN (l[i + 1]).toNat < 0
    · rw [uhR_bad _ _ _ _ hb]
      refine ⟨2, fun k hk => ?_⟩
      obtain ⟨k, rfl⟩ : ∃ m, k = m + 2 := ⟨k - 2, by omega⟩
      show spec_Unhex.l0 (k + 2) _ _ _ = _
      rw [spec_Unhex.l0, if_pos (by omega), if_pos (by omega), bt_mk l i h1, spec_l01Value.is, Option.bind_some, e1.out, if_pos (by omega), if_pos (by omega), bt_mk l (i + 1) h2, spec_l01Value.is, Option.bind_some]
      by_cases hc : hvN (l[i]).toNat < 0
      · rw [if_pos hc]
        rfl
      · rw [if_neg hc, if_pos (by omega)]
        rfl
    · rw [uhR_cons _ _ _ _ hb]
      obtain ⟨K, hK⟩ := ih (i + 2) (acc ++ [UInt8.ofNat (16 * (hvN (l[i]).toNat).toNat + (hvN (l[i + 1]).toNat).toNat)]) (by omega) (by simp; omega)
      dsimp only at hK
      refine ⟨K + 2, fun k hk => ?_⟩
      obtain ⟨k, rfl⟩ : ∃ m, k = m + 2 := ⟨k - 2, by omega⟩
      show spec_Unhex.l0 (k + 2) _ _ _ = _
      have := hK (k + 1) (by omega)
      rw [nm_append, ← unhex_byte _ _ (by omega) (by omega) (by omega) (by omega)] at this
      rw [spec_Unhex.l0, if_pos (by omega), if_pos (by omega), bt_mk l i h1, spec_l01Value.is, Option.bind_some, e1.out, if_pos (by omega), if_pos (by omega), bt_mk l (i + 1) h2, spec_l01Value.is, Option.bind_some,
        if_neg (by omega), if_neg (by omega), if_pos (by rw [nm_length]; omega), e2.out, this]
theorem spec_Unhex.ev (l : List UInt8) (hs : l.length ≤ 1048576) : Ev (fun k => spec_Unhex.f k (mk l)) (unhexOf l) := by
  have hsz := mk_size l
  unfold unhexOf
  by_cases hc : l.length > 40000
  · rw [if_pos (.inr hc)]
    refine ⟨1, fun k hk => ?_⟩
    obtain ⟨k, rfl⟩ : ∃ m, k = m + 1 := ⟨k - 1, by omega⟩
    show spec_Unhex.f (k + 1) _ = _
    unfold spec_Unhex.f
    rw [if_pos (by omega), spec_Unhex.j0, if_pos rfl]
    rfl
  · by_cases h2 : l.length % 2 = 1
    · rw [if_pos (.inl h2)]
      refine ⟨1, fun k hk => ?_⟩
      obtain ⟨k, rfl⟩ : ∃ m, k = m + 1 := ⟨k - 1, by omega⟩
      show spec_Unhex.f (k + 1) _ = _
      unfold spec_Unhex.f
      rw [if_neg (by omega), show ((((mk l).size : Int) % 2) != 0) = true from by rw [bne_iff_ne]; omega, spec_Unhex.j0, if_pos rfl]
      rfl
    · rw [if_neg (by omega)]
      obtain ⟨K, hK⟩ := spec_Unhex.ev0 l (by omega) (l.length / 2) 0 [] (by omega) (by simp)
      dsimp only at hK
      refine ⟨K + 1, fun k hk => ?_⟩
      obtain ⟨k, rfl⟩ : ∃ m, k = m + 1 := ⟨k - 1, by omega⟩
      show spec_Unhex.f (k + 1) _ = _
      unfold spec_Unhex.f
      rw [if_neg (by omega), show ((((mk l).size : Int) % 2) != 0) = false from by rw [bne_eq_false_iff_eq]; omega, spec_Unhex.j0, if_neg (by simp)]
      exact hK k (by omega)
theorem figs_at : ∀ n : Nat, n < 256 → Lib.indexByte [48, 49, 50, 51, 52, 53, 54, 55, 56, 57, 97, 98, 99, 100, 101, 102] (UInt8.ofNat n) = hvN n := by decide +kernel
theorem strings_IndexByte.figs (c : UInt8) : strings_IndexByte.f (⟨#[48, 49, 50, 51, 52, 53, 54, 55, 56, 57, 97, 98, 99, 100, 101, 102]⟩ : ByteArray) (c.toNat : Int) = some (hvN c.toNat) := by
  unfold strings_IndexByte.f stringslite_IndexByte.f
  rw [Option.bind_some, Int.toNat_natCast, ← figs_at c.toNat c.toNat_lt]
theorem impl_Unhex.ev0 (l : List UInt8) (hs : l.length ≤ 40000) (d : Nat) : ∀ (i : Nat) (acc : List UInt8) (half : Int), i % 2 = 0 → i + 2 * d = l.length → acc.length ≤ i → Ev (fun k => impl_Unhex.l0 k (mk l) (nm acc) half (i : Int)) (uhR acc (uhL (l.drop i))) := by
  have hsz := mk_size l
  induction d with
  | zero =>
    intro i acc half hi2 hi ha
    refine ⟨1, fun k hk => ?_⟩
    obtain ⟨k, rfl⟩ : ∃ m, k = m + 1 := ⟨k - 1, by omega⟩
    show impl_Unhex.l0 (k + 1) _ _ _ _ = _
    rw [impl_Unhex.l0, if_neg (by omega), List.drop_eq_nil_of_le (by omega), strOf_nm]
    simp [uhL, uhR]
  | succ d ih =>
    intro i acc half hi2 hi ha
    have h1 : i < l.length := by omega
    have h2 : i + 1 < l.length := by omega
    have e1 : Hd (wrap64 ((i : Int) + 1) = ((i + 1 : Nat) : Int)) := Hd.mk <| by rw [w64 (by omega) (by omega)]; rfl
    have e2 : Hd (wrap64 (((i + 1 : Nat) : Int) + 1) = ((i + 2 : Nat) : Int)) := Hd.mk <| by rw [w64 (by omega) (by omega)]; rfl
    have m1 : Int.tmod (i : Int) 2 = ((i % 2 : Nat) : Int) := tmod_nat i 2
    have m2 : Int.tmod ((i + 1 : Nat) : Int) 2 = (((i + 1) % 2 : Nat) : Int) := tmod_nat (i + 1) 2
    rw [drop_cons l i h1, drop_cons l (i + 1) h2]
    have va := hvN_le (l[i]).toNat
    have vb := hvN_le (l[i + 1]).toNat
    by_cases hb : hvN (l[i]).toNat < 0 ∨ hvN (l[i + 1]).toNat < 0
    · rw [uhR_bad _ _ _ _ hb]
      refine ⟨2, fun k hk => ?_⟩
      obtain ⟨k, rfl⟩ : ∃ m, k = m + 2 := ⟨k - 2, by omega⟩
      show impl_Unhex.l0 (k + 2) _ _ _ _ = _
      rw [impl_Unhex.l0, if_pos (by omega), if_pos (by omega), bt_mk l i h1, strings_IndexByte.figs, Option.bind_some]
      by_cases hc : hvN (l[i]).toNat < 0
      · rw [if_pos hc]
        rfl
      · rw [if_neg hc, if_neg (by omega), e1.out, impl_Unhex.l0, if_pos (by omega), if_pos (by omega), bt_mk l (i + 1) h2, strings_IndexByte.figs, Option.bind_some, if_pos (by omega)]
        rfl
    · rw [uhR_cons _ _ _ _ hb]
      obtain ⟨K, hK⟩ := ih (i + 2) (acc ++ [UInt8.ofNat (16 * (hvN (l[i]).toNat).toNat + (hvN (l[i + 1]).toNat).toNat)]) (hvN (l[i + 1]).toNat) (by omega) (by omega) (by simp; omega)
      dsimp only at hK
      refine ⟨K + 2, fun k hk => ?_⟩
      obtain ⟨k, rfl⟩ : ∃ m, k = m + 2 := ⟨k - 2, by omega⟩
      show impl_Unhex.l0 (k + 2) _ _ _ _ = _
      have := hK k (by omega)
      rw [nm_append, ← unhex_byte _ _ (by omega) (by omega) (by omega) (by omega)] at this
      rw [impl_Unhex.l0, if_pos (by omega), if_pos (by omega), bt_mk l i h1, strings_IndexByte.figs, Option.bind_some, if_neg (by omega), if_neg (by omega), e1.out,
        impl_Unhex.l0, if_pos (by omega), if_pos (by omega), bt_mk l (i + 1) h2, strings_IndexByte.figs, Option.bind_some, if_neg (by omega), if_pos (by omega), if_pos (by rw [nm_length]; omega), e2.out, this]
theorem impl_Unhex.ev (l : List UInt8) (hs : l.length ≤ 1048576) : Ev (fun k => impl_Unhex.f k (mk l)) (unhexOf l) := by
  have hsz := mk_size l
  unfold unhexOf
  by_cases h2 : l.length % 2 = 1
  · rw [if_pos (.inl h2)]
    refine ⟨1, fun k hk => ?_⟩
    obtain ⟨k, rfl⟩ : ∃ m, k = m + 1 := ⟨k - 1, by omega⟩
    show impl_Unhex.f (k + 1) _ = _
    unfold impl_Unhex.f
    rw [if_pos (by omega), impl_Unhex.j0, if_pos rfl]
    rfl
  · by_cases hc : l.length > 40000
    · rw [if_pos (.inr hc)]
      refine ⟨1, fun k hk => ?_⟩
      obtain ⟨k, rfl⟩ : ∃ m, k = m + 1 := ⟨k - 1, by omega⟩
      show impl_Unhex.f (k + 1) _ = _
      unfold impl_Unhex.f
      rw [if_neg (by omega), decide_eq_true (by omega), impl_Unhex.j0, if_pos rfl]
      rfl
    · rw [if_neg (by omega)]
      obtain ⟨K, hK⟩ := impl_Unhex.ev0 l (by omega) (l.length / 2) 0 [] 0 (by omega) (by omega) (by simp)
      dsimp only at hK
      refine ⟨K + 1, fun k hk => ?_⟩
      obtain ⟨k, rfl⟩ : ∃ m, k = m + 1 := ⟨k - 1, by omega⟩
      show impl_Unhex.f (k + 1) _ = _
      unfold impl_Unhex.f
      rw [if_neg (by omega), decide_eq_false (by omega), impl_Unhex.j0, if_neg (by simp)]
      exact hK k (by omega)
theorem FnExactUnhex : ∀ (a0 : ByteArray), (a0.size ≤ maxLen) → ∃ k, laws_FnExactUnhex.f k a0 = some true := by
  intro s _
  obtain ⟨l, rfl⟩ := mk_of s
  have hsz := mk_size l
  by_cases hc : ((mk l).size : Int) > 1048576
  · refine ⟨0, ?_⟩
    unfold laws_FnExactUnhex.f
    rw [if_pos hc]
  obtain ⟨K1, h1⟩ := spec_Unhex.ev l (by omega)
  obtain ⟨K2, h2⟩ := impl_Unhex.ev l (by omega)
  dsimp only at h1 h2
  refine ⟨K1 + K2, ?_⟩
  unfold laws_FnExactUnhex.f
  rw [h1 _ (by omega), h2 _ (by omega), if_neg hc]
  simp

end Go.Proofs.Ytgmddhdlgbaagaa.Pure
