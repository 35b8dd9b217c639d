/- The law FnExactHex, over numbers and lists: for every input that the statement speaks of the printed function answers true; conditions: those of the printed statement. -/
import Derived.Test.YtgmddhdlgbaagaaQFnExactHexx1
import Derived.Laws.BitsAllLaws
namespace Go.Proofs.Ytgmddhdlgbaagaa.Pure
open Go.RowKit Go.Proofs.Ytgmddhdlgbaagaa.QFnExactHex Go.Proofs.YtgmddhdlgbaagaaW.PrintWords Go.Proofs.YtgmddhdlgbaagaaW.PrintLast Go.Proofs.YtgmddhdlgbaagaaW.PrintMore
set_option linter.unusedVariables false
set_option linter.unusedSimpArgs false

/-! ### strings as lists of bytes -/
def mk (l : List UInt8) : ByteArray := ⟨l.toArray⟩
def nm (l : List UInt8) : List Int := l.map fun b => (b.toNat : Int)
theorem mk_of (s : ByteArray) : ∃ l, s = mk l := ⟨s.data.toList, rfl⟩
theorem mk_data (l : List UInt8) : (mk l).data.toList = l := rfl
theorem mk_toList (l : List UInt8) : (mk l).toList = l := by rw [ByteArray.toList_eq]; rfl
theorem mk_size (l : List UInt8) : (mk l).size = l.length := List.size_toArray
theorem mk_inj {a b : List UInt8} (h : mk a = mk b) : a = b := by rw [← mk_data a, h]; rfl
theorem mk_append (a b : List UInt8) : mk a ++ mk b = mk (a ++ b) := by
  apply ByteArray.ext
  rw [ByteArray.data_append]
  simp [mk]
theorem mk_extract (l : List UInt8) (i j : Nat) : (mk l).extract i j = mk ((l.drop i).take (j - i)) := by
  apply ByteArray.ext
  rw [ByteArray.data_extract]
  apply Array.ext'
  simp [mk, List.take_drop]
theorem mk_nil : (⟨#[]⟩ : ByteArray) = mk [] := rfl
theorem nm_append (a b : List UInt8) : nm (a ++ b) = nm a ++ nm b := by simp [nm]
theorem nm_length (a : List UInt8) : (nm a).length = a.length := by simp [nm]
theorem nm_nil : ([] : List Int) = nm [] := rfl
theorem strOf_nm (l : List UInt8) : strOfNums (nm l) = mk l := by
  unfold strOfNums nm mk
  rw [List.map_map]
  congr 1
  have : ∀ l : List UInt8, List.map ((fun n : Int => UInt8.ofNat n.toNat) ∘ fun b : UInt8 => (b.toNat : Int)) l = l := by
    intro l
    induction l with
    | nil => rfl
    | cons a l ih => rw [List.map_cons, ih]; simp
  rw [this]
theorem bt_mk (l : List UInt8) (n : Nat) (h : n < l.length) : bt (mk l) (n : Int) = ((l[n]).toNat : Int) := by
  unfold bt
  rw [dif_pos (show (n : Int).toNat < (mk l).size by rw [mk_size]; omega)]
  rfl
/-- A fact that omega doesn't look into. -/
structure Hd (p : Prop) : Prop where
  mk :: (out : p)
theorem w64 {x : Int} (h0 : -9223372036854775808 ≤ x) (h1 : x ≤ 9223372036854775807) : wrap64 x = x := by
  unfold wrap64
  omega
theorem nm_u8 (n : Nat) (h : n < 256) : nm [UInt8.ofNat n] = [(n : Int)] := by
  simp [nm]
  omega
theorem tmod_nat (x d : Nat) : Int.tmod (x : Int) (d : Int) = ((x % d : Nat) : Int) := by
  rw [Int.tmod_eq_emod_of_nonneg (by omega)]
  exact (Int.natCast_emod x d).symm
theorem tdiv_nat (x d : Nat) : Int.tdiv (x : Int) (d : Int) = ((x / d : Nat) : Int) := by
  rw [Int.tdiv_eq_ediv_of_nonneg (by omega)]
  exact (Int.natCast_ediv x d).symm
theorem drop_cons (l : List UInt8) (i : Nat) (h : i < l.length) : l.drop i = l[i] :: l.drop (i + 1) := List.drop_eq_getElem_cons h
def hx (n : Nat) : UInt8 := if n < 10 then UInt8.ofNat (48 + n) else UInt8.ofNat (87 + n)
def hexL (l : List UInt8) : List UInt8 := l.flatMap fun b => [hx (b.toNat / 16), hx (b.toNat % 16)]
theorem hexL_cons (b : UInt8) (l : List UInt8) : hexL (b :: l) = [hx (b.toNat / 16), hx (b.toNat % 16)] ++ hexL l := rfl
def hexOf (l : List UInt8) : ByteArray × Bool := if l.length ≤ 20000 then (mk (hexL l), true) else (mk [], false)
theorem hx_nat : ∀ n : Nat, n < 16 → (hx n).toNat = if n < 10 then 48 + n else 87 + n := by decide
theorem spec_l01Figure.is (n : Nat) (h : n < 16) : spec_l01Figure.f (n : Int) = some ((hx n).toNat : Int) := by
  unfold spec_l01Figure.f
  rw [hx_nat n h]
  by_cases c : n < 10
  · rw [if_pos (by omega), if_pos c, w64 (by omega) (by omega)]
    congr 1
    omega
  · rw [if_neg (by omega), if_neg c, w64 (x := 97 + (n : Int)) (by omega) (by omega), w64 (by omega) (by omega)]
    congr 1
    omega
theorem spec_Hex.ev0 (l : List UInt8) (hs : l.length ≤ 20000) (d : Nat) : ∀ (i : Nat) (a : List UInt8), i + d = l.length → a.length = 2 * i →
    Ev (fun k => spec_Hex.l0 k (mk l) (nm a) (i : Int)) (mk (a ++ hexL (l.drop i)), true) := by
  have hsz := mk_size l
  induction d with
  | zero =>
    intro i a hi ha
    refine ⟨1, fun k hk => ?_⟩
    obtain ⟨k, rfl⟩ : ∃ m, k = m + 1 := ⟨k - 1, by omega⟩
    show spec_Hex.l0 (k + 1) _ _ _ = _
    rw [spec_Hex.l0, if_neg (by omega), List.drop_eq_nil_of_le (by omega), strOf_nm]
    simp [hexL]
  | succ d ih =>
    intro i a hi ha
    have hlt : i < l.length := by omega
    have hb : (l[i]).toNat < 256 := (l[i]).toNat_lt
    have hal := nm_length a
    rw [drop_cons l i hlt, hexL_cons, ← List.append_assoc]
    refine Ev.step (fun k => ?_) (ih (i + 1) (a ++ [hx ((l[i]).toNat / 16), hx ((l[i]).toNat % 16)]) (by omega) (by simp; omega))
    show spec_Hex.l0 (k + 1) _ _ _ = spec_Hex.l0 k _ _ _
    have e1 : Int.tmod ((l[i]).toNat : Int) 16 = (((l[i]).toNat % 16 : Nat) : Int) := tmod_nat _ 16
    have e2 : Int.tdiv ((l[i]).toNat : Int) 16 = (((l[i]).toNat / 16 : Nat) : Int) := tdiv_nat _ 16
    rw [spec_Hex.l0, if_pos (by omega), if_pos (by omega), bt_mk l i hlt, w64 (x := ((l[i]).toNat : Int)) (by omega) (by omega), e1, e2,
      w64 (x := (((l[i]).toNat / 16 : Nat) : Int)) (by omega) (by omega), spec_l01Figure.is _ (by omega), spec_l01Figure.is _ (by omega)]
    simp only [Option.bind_some]
    rw [if_pos (by simp only [List.length_cons, List.length_nil]; omega), w64 (by omega) (by omega), nm_append]
    rfl
theorem spec_Hex.ev (l : List UInt8) (hs : l.length ≤ 140737488351232) : Ev (fun k => spec_Hex.f k (mk l)) (hexOf l) := by
  have hsz := mk_size l
  unfold hexOf
  by_cases hc : l.length ≤ 20000
  · obtain ⟨K, h⟩ := spec_Hex.ev0 l hc l.length 0 [] (by omega) (by simp)
    dsimp only at h
    refine ⟨K, fun k hk => ?_⟩
    show spec_Hex.f k _ = _
    unfold spec_Hex.f
    rw [if_neg (by omega), if_pos hc]
    exact h k hk
  · refine ⟨0, fun k hk => ?_⟩
    show spec_Hex.f k _ = _
    unfold spec_Hex.f
    rw [if_pos (by omega), if_neg hc]
    rfl
theorem hx_tab : ∀ n : Nat, n < 16 → bt (⟨#[48, 49, 50, 51, 52, 53, 54, 55, 56, 57, 97, 98, 99, 100, 101, 102]⟩ : ByteArray) (n : Int) = ((hx n).toNat : Int) := by decide
theorem impl_Hex.ev0 (l : List UInt8) (hs : l.length ≤ 20000) (d : Nat) : ∀ (i : Nat) (a : List UInt8), i + d = l.length → a.length = 2 * i →
    Ev (fun k => impl_Hex.l0 k (mk l) (nm a) (i : Int)) (mk (a ++ hexL (l.drop i)), true) := by
  have hsz := mk_size l
  induction d with
  | zero =>
    intro i a hi ha
    refine ⟨1, fun k hk => ?_⟩
    obtain ⟨k, rfl⟩ : ∃ m, k = m + 1 := ⟨k - 1, by omega⟩
    show impl_Hex.l0 (k + 1) _ _ _ = _
    rw [impl_Hex.l0, if_neg (by omega), List.drop_eq_nil_of_le (by omega), strOf_nm]
    simp [hexL]
  | succ d ih =>
    intro i a hi ha
    have hlt : i < l.length := by omega
    have hb : (l[i]).toNat < 256 := (l[i]).toNat_lt
    have hal := nm_length a
    rw [drop_cons l i hlt, hexL_cons, ← List.append_assoc]
    refine Ev.step (fun k => ?_) (ih (i + 1) (a ++ [hx ((l[i]).toNat / 16), hx ((l[i]).toNat % 16)]) (by omega) (by simp; omega))
    show impl_Hex.l0 (k + 1) _ _ _ = impl_Hex.l0 k _ _ _
    have e1 : Int.tmod ((l[i]).toNat : Int) 16 = (((l[i]).toNat % 16 : Nat) : Int) := tmod_nat _ 16
    have e2 : Int.tdiv ((l[i]).toNat : Int) 16 = (((l[i]).toNat / 16 : Nat) : Int) := tdiv_nat _ 16
    have e3 : (((l[i]).toNat / 16 : Nat) : Int) % 256 = (((l[i]).toNat / 16 : Nat) : Int) := by omega
    rw [impl_Hex.l0, if_pos (by omega), if_pos (by omega), bt_mk l i hlt, e1, e2, e3, if_pos (by omega), if_pos (by omega), if_pos (by omega), if_pos (by omega), hx_tab _ (by omega), hx_tab _ (by omega)]
    simp only [Option.bind_some]
    rw [if_pos (by simp only [List.length_cons, List.length_nil]; omega), w64 (by omega) (by omega), nm_append]
    rfl
theorem impl_Hex.ev (l : List UInt8) (hs : l.length ≤ 140737488351232) : Ev (fun k => impl_Hex.f k (mk l)) (hexOf l) := by
  have hsz := mk_size l
  unfold hexOf
  by_cases hc : l.length ≤ 20000
  · obtain ⟨K, h⟩ := impl_Hex.ev0 l hc l.length 0 [] (by omega) (by simp)
    dsimp only at h
    refine ⟨K, fun k hk => ?_⟩
    show impl_Hex.f k _ = _
    unfold impl_Hex.f
    rw [if_neg (by omega), if_pos hc]
    exact h k hk
  · refine ⟨0, fun k hk => ?_⟩
    show impl_Hex.f k _ = _
    unfold impl_Hex.f
    rw [if_pos (by omega), if_neg hc]
    rfl
theorem FnExactHex : ∀ (a0 : ByteArray), (a0.size ≤ maxLen) → ∃ k, laws_FnExactHex.f k a0 = some true := by
  intro s _
  obtain ⟨l, rfl⟩ := mk_of s
  have hsz := mk_size l
  by_cases hc : ((mk l).size : Int) > 1048576
  · refine ⟨0, ?_⟩
    unfold laws_FnExactHex.f
    rw [if_pos hc]
  obtain ⟨K1, h1⟩ := spec_Hex.ev l (by omega)
  obtain ⟨K2, h2⟩ := impl_Hex.ev l (by omega)
  dsimp only at h1 h2
  refine ⟨K1 + K2, ?_⟩
  unfold laws_FnExactHex.f
  rw [h1 _ (by omega), h2 _ (by omega), if_neg hc]
  simp

end Go.Proofs.Ytgmddhdlgbaagaa.Pure
