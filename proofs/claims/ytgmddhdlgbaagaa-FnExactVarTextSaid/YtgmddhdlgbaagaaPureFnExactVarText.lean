/- The law FnExactVarText, over numbers and lists: for every input that the statement speaks of the printed function answers true; conditions: those of the printed statement. -/
import Derived.Test.YtgmddhdlgbaagaaPFnExactVarTextx1
import Derived.Laws.BitsAllLaws
namespace Go.Proofs.Ytgmddhdlgbaagaa.Pure
open Go.RowKit Go.Proofs.Ytgmddhdlgbaagaa.PFnExactVarText Go.Proofs.YtgmddhdlgbaagaaW.PrintWords Go.Proofs.YtgmddhdlgbaagaaW.PrintLast
set_option linter.unusedVariables false
set_option linter.unusedSimpArgs false

theorem spec_l01In.is (a lo hi : Int) : spec_l01In.f a lo hi = some (decide (lo ≤ a ∧ a ≤ hi)) := by
  unfold spec_l01In.f
  by_cases h : a ≥ lo
  · rw [if_pos h]
    congr 1
    simp only [decide_eq_decide]
    exact ⟨fun h' => ⟨h, h'⟩, fun h' => h'.2⟩
  · rw [if_neg h, decide_eq_false (fun h' => h h'.1)]
/-! ### strings as lists of bytes -/
def mk (l : List UInt8) : ByteArray := ⟨l.toArray⟩
def nm (l : List UInt8) : List Int := l.map fun b => (b.toNat : Int)
theorem mk_of (s : ByteArray) : ∃ l, s = mk l := ⟨s.data.toList, rfl⟩
theorem mk_data (l : List UInt8) : (mk l).data.toList = l := rfl
theorem mk_toList (l : List UInt8) : (mk l).toList = l := by rw [ByteArray.toList_eq]; rfl
theorem mk_size (l : List UInt8) : (mk l).size = l.length := List.size_toArray
theorem mk_inj {a b : List UInt8} (h : mk a = mk b) : a = b := by rw [← mk_data a, h]; rfl
theorem mk_append (a b : List UInt8) : mk a ++ mk b = mk (a ++ b) := by
  apply ByteArray.ext
  rw [ByteArray.data_append]
  simp [mk]
theorem mk_extract (l : List UInt8) (i j : Nat) : (mk l).extract i j = mk ((l.drop i).take (j - i)) := by
  apply ByteArray.ext
  rw [ByteArray.data_extract]
  apply Array.ext'
  simp [mk, List.take_drop]
theorem mk_nil : (⟨#[]⟩ : ByteArray) = mk [] := rfl
theorem nm_append (a b : List UInt8) : nm (a ++ b) = nm a ++ nm b := by simp [nm]
theorem nm_length (a : List UInt8) : (nm a).length = a.length := by simp [nm]
theorem nm_nil : ([] : List Int) = nm [] := rfl
theorem strOf_nm (l : List UInt8) : strOfNums (nm l) = mk l := by
  unfold strOfNums nm mk
  rw [List.map_map]
  congr 1
  have : ∀ l : List UInt8, List.map ((fun n : Int => UInt8.ofNat n.toNat) ∘ fun b : UInt8 => (b.toNat : Int)) l = l := by
    intro l
    induction l with
    | nil => rfl
    | cons a l ih => rw [List.map_cons, ih]; simp
  rw [this]
theorem bt_mk (l : List UInt8) (n : Nat) (h : n < l.length) : bt (mk l) (n : Int) = ((l[n]).toNat : Int) := by
  unfold bt
  rw [dif_pos (show (n : Int).toNat < (mk l).size by rw [mk_size]; omega)]
  rfl
theorem w64 {x : Int} (h0 : -9223372036854775808 ≤ x) (h1 : x ≤ 9223372036854775807) : wrap64 x = x := by
  unfold wrap64
  omega
theorem nm_u8 (n : Nat) (h : n < 256) : nm [UInt8.ofNat n] = [(n : Int)] := by
  simp [nm]
  omega
theorem tmod_nat (x d : Nat) : Int.tmod (x : Int) (d : Int) = ((x % d : Nat) : Int) := by
  rw [Int.tmod_eq_emod_of_nonneg (by omega)]
  exact (Int.natCast_emod x d).symm
theorem tdiv_nat (x d : Nat) : Int.tdiv (x : Int) (d : Int) = ((x / d : Nat) : Int) := by
  rw [Int.tdiv_eq_ediv_of_nonneg (by omega)]
  exact (Int.natCast_ediv x d).symm
theorem drop_cons (l : List UInt8) (i : Nat) (h : i < l.length) : l.drop i = l[i] :: l.drop (i + 1) := List.drop_eq_getElem_cons h
/-! ### numbers in bytes -/
def vt (n : Nat) : List UInt8 := if h : 127 < n then UInt8.ofNat (n % 128 + 128) :: vt (n / 128) else [UInt8.ofNat n]
termination_by n
decreasing_by omega
theorem vt_big {n : Nat} (h : 127 < n) : vt n = UInt8.ofNat (n % 128 + 128) :: vt (n / 128) := by rw [vt, dif_pos h]
theorem vt_small {n : Nat} (h : n ≤ 127) : vt n = [UInt8.ofNat n] := by rw [vt, dif_neg (by omega)]
theorem vt_len (d : Nat) : ∀ n : Nat, n < 128 * 128 ^ d → 1 ≤ (vt n).length ∧ (vt n).length ≤ d + 1 := by
  induction d with
  | zero => intro n h; rw [vt_small (by omega)]; simp
  | succ d ih =>
    intro n h
    by_cases hn : 127 < n
    · rw [vt_big hn]
      have := ih (n / 128) (by rw [Nat.pow_succ] at h; omega)
      simp only [List.length_cons]
      omega
    · rw [vt_small (by omega)]; simp
theorem vt_len8 {n : Nat} (h : n ≤ 9223372036854775807) : 1 ≤ (vt n).length ∧ (vt n).length ≤ 9 := vt_len 8 n (by omega)
theorem vt_len5 {n : Nat} (h : n ≤ 1000000000) : 1 ≤ (vt n).length ∧ (vt n).length ≤ 5 := vt_len 4 n (by omega)
/-- What VarText answers. -/
def varOf (n : Int) : ByteArray × Bool := if 0 ≤ n ∧ n ≤ 1000000000 then (mk (vt n.toNat), true) else (mk [], false)
theorem spec_l01Var.ev0 (n : Nat) : ∀ (acc : List UInt8), n ≤ 9223372036854775807 → acc.length + (vt n).length ≤ 100 → Ev (fun k => spec_l01Var.l0 k (n : Int) (nm acc)) (mk (acc ++ vt n)) := by
  induction n using Nat.strongRecOn with
  | ind n ih =>
    intro acc hn hl
    have hal := nm_length acc
    by_cases h : 127 < n
    · have e1 : Int.tmod (n : Int) 128 = ((n % 128 : Nat) : Int) := tmod_nat n 128
      have e2 : Int.tdiv (n : Int) 128 = ((n / 128 : Nat) : Int) := tdiv_nat n 128
      rw [vt_big h] at hl ⊢
      have e3 : [(wrap64 ((Int.tmod (n : Int) 128) + 128)) % 256] = nm [UInt8.ofNat (n % 128 + 128)] := by
        rw [nm_u8 _ (by omega), e1, w64 (by omega) (by omega)]
        congr 1
        omega
      have := ih (n / 128) (by omega) (acc ++ [UInt8.ofNat (n % 128 + 128)]) (by omega) (by simp at hl ⊢; omega)
      rw [List.append_assoc, List.singleton_append] at this
      refine Ev.step (fun k => ?_) this
      show spec_l01Var.l0 (k + 1) _ _ = _
      rw [spec_l01Var.l0, if_pos (by omega), if_pos (by simp at hl; omega), e3, e2, w64 (by omega) (by omega), nm_append]
    · refine ⟨1, fun k hk => ?_⟩
      obtain ⟨k, rfl⟩ : ∃ m, k = m + 1 := ⟨k - 1, by omega⟩
      show spec_l01Var.l0 (k + 1) _ _ = _
      have e3 : [(n : Int) % 256] = nm [UInt8.ofNat n] := by
        rw [nm_u8 _ (by omega)]
        congr 1
        omega
      rw [vt_small (by omega)] at hl ⊢
      rw [spec_l01Var.l0, if_neg (by omega), if_pos (by simp at hl; omega), e3, ← nm_append, strOf_nm]
theorem spec_VarText.ev (n : Int) : Ev (fun k => spec_VarText.f k n) (varOf n) := by
  unfold varOf
  by_cases h : 0 ≤ n ∧ n ≤ 1000000000
  · obtain ⟨m, rfl⟩ := Int.eq_ofNat_of_zero_le h.1
    have hl := vt_len5 (n := m) (by omega)
    obtain ⟨K, hK⟩ := spec_l01Var.ev0 m [] (by omega) (by simp; omega)
    dsimp only at hK
    refine ⟨K, fun k hk => ?_⟩
    show spec_VarText.f k _ = _
    unfold spec_VarText.f spec_l01Var.f
    rw [spec_l01In.is, decide_eq_true h, if_pos h]
    simp only [Option.bind_some, if_true]
    rw [nm_nil, hK k hk]
    rfl
  · refine ⟨0, fun k hk => ?_⟩
    show spec_VarText.f k _ = _
    unfold spec_VarText.f
    rw [spec_l01In.is, decide_eq_false h, if_neg h]
    rfl
theorem impl_within.is (a lo hi : Int) : impl_within.f a lo hi = some (decide (lo ≤ a ∧ a ≤ hi)) := by
  unfold impl_within.f
  by_cases h : a ≥ lo
  · rw [if_pos h]
    congr 1
    simp only [decide_eq_decide]
    exact ⟨fun h' => ⟨h, h'⟩, fun h' => h'.2⟩
  · rw [if_neg h, decide_eq_false (fun h' => h h'.1)]
theorem impl_VarText.ev0 (n : Nat) : ∀ (acc : List UInt8), n ≤ 9223372036854775807 → acc.length + (vt n).length ≤ 100 → Ev (fun k => impl_VarText.l0 k (n : Int) (nm acc)) (mk (acc ++ vt n), true) := by
  induction n using Nat.strongRecOn with
  | ind n ih =>
    intro acc hn hl
    have hal := nm_length acc
    by_cases h : 127 < n
    · have e1 : Int.tmod (n : Int) 128 = ((n % 128 : Nat) : Int) := tmod_nat n 128
      have e2 : Int.tdiv (n : Int) 128 = ((n / 128 : Nat) : Int) := tdiv_nat n 128
      rw [vt_big h] at hl ⊢
      have e3 : [(wrap64 ((Int.tmod (n : Int) 128) + 128)) % 256] = nm [UInt8.ofNat (n % 128 + 128)] := by
        rw [nm_u8 _ (by omega), e1, w64 (by omega) (by omega)]
        congr 1
        omega
      have := ih (n / 128) (by omega) (acc ++ [UInt8.ofNat (n % 128 + 128)]) (by omega) (by simp at hl ⊢; omega)
      rw [List.append_assoc, List.singleton_append] at this
      refine Ev.step (fun k => ?_) this
      show impl_VarText.l0 (k + 1) _ _ = _
      rw [impl_VarText.l0, if_pos (by omega), if_pos (by simp at hl; omega), e3, e2, w64 (by omega) (by omega), nm_append]
    · refine ⟨1, fun k hk => ?_⟩
      obtain ⟨k, rfl⟩ : ∃ m, k = m + 1 := ⟨k - 1, by omega⟩
      show impl_VarText.l0 (k + 1) _ _ = _
      have e3 : [(n : Int) % 256] = nm [UInt8.ofNat n] := by
        rw [nm_u8 _ (by omega)]
        congr 1
        omega
      rw [vt_small (by omega)] at hl ⊢
      rw [impl_VarText.l0, if_neg (by omega), if_pos (by simp at hl; omega), e3, ← nm_append, strOf_nm]
theorem impl_VarText.ev (n : Int) : Ev (fun k => impl_VarText.f k n) (varOf n) := by
  unfold varOf
  by_cases h : 0 ≤ n ∧ n ≤ 1000000000
  · obtain ⟨m, rfl⟩ := Int.eq_ofNat_of_zero_le h.1
    have hl := vt_len5 (n := m) (by omega)
    obtain ⟨K, hK⟩ := impl_VarText.ev0 m [] (by omega) (by simp; omega)
    dsimp only at hK
    refine ⟨K, fun k hk => ?_⟩
    show impl_VarText.f k _ = _
    unfold impl_VarText.f
    rw [impl_within.is, decide_eq_true h, if_pos h]
    simp only [Option.bind_some, if_true]
    rw [nm_nil, hK k hk]
    rfl
  · refine ⟨0, fun k hk => ?_⟩
    show impl_VarText.f k _ = _
    unfold impl_VarText.f
    rw [impl_within.is, decide_eq_false h, if_neg h]
    rfl
theorem FnExactVarText : laws_FnExactVarText.Pure := by
  intro a ha
  obtain ⟨K1, h1⟩ := spec_VarText.ev a
  obtain ⟨K2, h2⟩ := impl_VarText.ev a
  dsimp only at h1 h2
  refine ⟨K1 + K2, ?_⟩
  unfold laws_FnExactVarText.f
  rw [h1 _ (by omega), h2 _ (by omega)]
  simp

end Go.Proofs.Ytgmddhdlgbaagaa.Pure
