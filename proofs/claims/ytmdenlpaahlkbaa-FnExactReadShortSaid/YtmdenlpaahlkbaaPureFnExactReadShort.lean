/- The law FnExactReadShort, over numbers and lists: for every input that the statement speaks of the printed function answers true; conditions: those of the printed statement. -/
import Derived.Test.YtmdenlpaahlkbaaPFnExactReadShortx1
import Derived.Test.YtmdenlpaahlkbaaPFnExactReadShortx2
import Derived.Laws.BitsAllLaws
namespace Go.Proofs.Ytmdenlpaahlkbaa.Pure
open Go.RowKit Go.Proofs.Ytmdenlpaahlkbaa.PFnExactReadShort Go.Proofs.YtmdenlpaahlkbaaW.PrintWords Go.Proofs.YtmdenlpaahlkbaaW.PrintLast Go.Proofs.YtmdenlpaahlkbaaW.PrintMore
set_option linter.unusedVariables false
set_option linter.unusedSimpArgs false

/-! ### strings as lists of bytes -/
def mk (l : List UInt8) : ByteArray := ⟨l.toArray⟩
def nm (l : List UInt8) : List Int := l.map fun b => (b.toNat : Int)
theorem mk_of (s : ByteArray) : ∃ l, s = mk l := ⟨s.data.toList, rfl⟩
theorem mk_data (l : List UInt8) : (mk l).data.toList = l := rfl
theorem mk_toList (l : List UInt8) : (mk l).toList = l := by rw [ByteArray.toList_eq]; rfl
theorem mk_size (l : List UInt8) : (mk l).size = l.length := List.size_toArray
theorem mk_inj {a b : List UInt8} (h : mk a = mk b) : a = b := by rw [← mk_data a, h]; rfl
theorem mk_append (a b : List UInt8) : mk a ++ mk b = mk (a ++ b) := by
  apply ByteArray.ext
  rw [ByteArray.data_append]
  simp [mk]
theorem mk_extract (l : List UInt8) (i j : Nat) : (mk l).extract i j = mk ((l.drop i).take (j - i)) := by
  apply ByteArray.ext
  rw [ByteArray.data_extract]
  apply Array.ext'
  simp [mk, List.take_drop]
theorem mk_nil : (⟨#[]⟩ : ByteArray) = mk [] := rfl
theorem nm_append (a b : List UInt8) : nm (a ++ b) = nm a ++ nm b := by simp [nm]
theorem nm_length (a : List UInt8) : (nm a).length = a.length := by simp [nm]
theorem nm_nil : ([] : List Int) = nm [] := rfl
theorem strOf_nm (l : List UInt8) : strOfNums (nm l) = mk l := by
  unfold strOfNums nm mk
  rw [List.map_map]
  congr 1
  have : ∀ l : List UInt8, List.map ((fun n : Int => UInt8.ofNat n.toNat) ∘ fun b : UInt8 => (b.toNat : Int)) l = l := by
    intro l
    induction l with
    | nil => rfl
    | cons a l ih => rw [List.map_cons, ih]; simp
  rw [this]
theorem bt_mk (l : List UInt8) (n : Nat) (h : n < l.length) : bt (mk l) (n : Int) = ((l[n]).toNat : Int) := by
  unfold bt
  rw [dif_pos (show (n : Int).toNat < (mk l).size by rw [mk_size]; omega)]
  rfl
/-- A fact that omega doesn't look into. -/
structure Hd (p : Prop) : Prop where
  mk :: (out : p)
theorem w64 {x : Int} (h0 : -9223372036854775808 ≤ x) (h1 : x ≤ 9223372036854775807) : wrap64 x = x := by
  unfold wrap64
  omega
theorem nm_u8 (n : Nat) (h : n < 256) : nm [UInt8.ofNat n] = [(n : Int)] := by
  simp [nm]
  omega
theorem tmod_nat (x d : Nat) : Int.tmod (x : Int) (d : Int) = ((x % d : Nat) : Int) := by
  rw [Int.tmod_eq_emod_of_nonneg (by omega)]
  exact (Int.natCast_emod x d).symm
theorem tdiv_nat (x d : Nat) : Int.tdiv (x : Int) (d : Int) = ((x / d : Nat) : Int) := by
  rw [Int.tdiv_eq_ediv_of_nonneg (by omega)]
  exact (Int.natCast_ediv x d).symm
theorem drop_cons (l : List UInt8) (i : Nat) (h : i < l.length) : l.drop i = l[i] :: l.drop (i + 1) := List.drop_eq_getElem_cons h
/-! ### numbers in bytes -/
def vt (n : Nat) : List UInt8 := if h : 127 < n then UInt8.ofNat (n % 128 + 128) :: vt (n / 128) else [UInt8.ofNat n]
termination_by n
decreasing_by omega
theorem vt_big {n : Nat} (h : 127 < n) : vt n = UInt8.ofNat (n % 128 + 128) :: vt (n / 128) := by rw [vt, dif_pos h]
theorem vt_small {n : Nat} (h : n ≤ 127) : vt n = [UInt8.ofNat n] := by rw [vt, dif_neg (by omega)]
theorem vt_len (d : Nat) : ∀ n : Nat, n < 128 * 128 ^ d → 1 ≤ (vt n).length ∧ (vt n).length ≤ d + 1 := by
  induction d with
  | zero => intro n h; rw [vt_small (by omega)]; simp
  | succ d ih =>
    intro n h
    by_cases hn : 127 < n
    · rw [vt_big hn]
      have := ih (n / 128) (by rw [Nat.pow_succ] at h; omega)
      simp only [List.length_cons]
      omega
    · rw [vt_small (by omega)]; simp
theorem vt_len8 {n : Nat} (h : n ≤ 9223372036854775807) : 1 ≤ (vt n).length ∧ (vt n).length ≤ 9 := vt_len 8 n (by omega)
theorem vt_len5 {n : Nat} (h : n ≤ 1000000000) : 1 ≤ (vt n).length ∧ (vt n).length ≤ 5 := vt_len 4 n (by omega)
/-- What VarText answers. -/
def varOf (n : Int) : ByteArray × Bool := if 0 ≤ n ∧ n ≤ 1000000000 then (mk (vt n.toNat), true) else (mk [], false)
/-- The number that stands at a list's head in bytes of seven bits, at most f of them; and how many bytes it has. -/
def leb : Nat → List UInt8 → Option (Nat × Nat)
  | 0, _ => none
  | _ + 1, [] => none
  | f + 1, b :: l => if b.toNat < 128 then some (b.toNat, 1) else match leb f l with
    | none => none
    | some (n, c) => some (b.toNat % 128 + 128 * n, c + 1)
theorem leb_facts : ∀ (f : Nat) (l : List UInt8) (n c : Nat), leb f l = some (n, c) → 1 ≤ c ∧ c ≤ f ∧ c ≤ l.length ∧ n < 128 ^ f
  | 0, _, _, _, h => by simp [leb] at h
  | f + 1, [], _, _, h => by simp [leb] at h
  | f + 1, b :: l, n, c, h => by
    rw [leb] at h
    have hp : 1 ≤ 128 ^ f := Nat.pow_pos (by omega)
    by_cases hb : b.toNat < 128
    · rw [if_pos hb] at h
      simp only [Option.some.injEq, Prod.mk.injEq] at h
      obtain ⟨rfl, rfl⟩ := h
      simp only [List.length_cons, Nat.pow_succ]
      omega
    · rw [if_neg hb] at h
      cases hr : leb f l with
      | none => rw [hr] at h; simp at h
      | some p =>
        obtain ⟨n', c'⟩ := p
        rw [hr] at h
        simp only [Option.some.injEq, Prod.mk.injEq] at h
        obtain ⟨rfl, rfl⟩ := h
        have := leb_facts f l n' c' hr
        simp only [List.length_cons, Nat.pow_succ]
        omega
/-- As long as its own text: just its own text. -/
theorem leb_text : ∀ (f : Nat) (l : List UInt8) (n c : Nat), leb f l = some (n, c) → (vt n).length = c → vt n = l.take c
  | 0, _, _, _, h, _ => by simp [leb] at h
  | f + 1, [], _, _, h, _ => by simp [leb] at h
  | f + 1, b :: l, n, c, h, hl => by
    rw [leb] at h
    have hb8 := b.toNat_lt
    by_cases hb : b.toNat < 128
    · rw [if_pos hb] at h
      simp only [Option.some.injEq, Prod.mk.injEq] at h
      obtain ⟨rfl, rfl⟩ := h
      rw [vt_small (by omega)]
      simp
    · rw [if_neg hb] at h
      cases hr : leb f l with
      | none => rw [hr] at h; simp at h
      | some p =>
        obtain ⟨n', c'⟩ := p
        rw [hr] at h
        simp only [Option.some.injEq, Prod.mk.injEq] at h
        obtain ⟨rfl, rfl⟩ := h
        have hf := leb_facts f l n' c' hr
        by_cases hn : 127 < b.toNat % 128 + 128 * n'
        · rw [vt_big hn] at hl ⊢
          have e1 : (b.toNat % 128 + 128 * n') / 128 = n' := by omega
          have e2 : (b.toNat % 128 + 128 * n') % 128 + 128 = b.toNat := by omega
          rw [e1] at hl
          rw [e1, e2]
          simp only [List.length_cons, Nat.add_right_cancel_iff] at hl
          rw [leb_text f l n' c' hr hl]
          simp
        · rw [vt_small (by omega)] at hl
          simp at hl
          omega
theorem leb_vt (d : Nat) : ∀ (n : Nat) (r : List UInt8), (vt n).length ≤ d → leb d (vt n ++ r) = some (n, (vt n).length) := by
  induction d with
  | zero => intro n r h; have := (vt_len n n (by have := Nat.lt_pow_self (n := n) (a := 128) (by omega); omega)).1; omega
  | succ d ih =>
    intro n r h
    by_cases hn : 127 < n
    · rw [vt_big hn] at h ⊢
      simp only [List.length_cons] at h
      have hb : (UInt8.ofNat (n % 128 + 128)).toNat = n % 128 + 128 := by rw [UInt8.toNat_ofNat']; omega
      rw [List.cons_append, leb, hb, if_neg (by omega), ih (n / 128) r (by omega)]
      simp only [List.length_cons]
      congr 2
      omega
    · rw [vt_small (by omega)]
      have hb : (UInt8.ofNat n).toNat = n := by rw [UInt8.toNat_ofNat']; omega
      rw [List.singleton_append, leb, hb, if_pos (by omega)]
      rfl
def rvFin (a : Nat) : Option (Nat × Nat) → Int × Int × Bool
  | none => (0, 0, false)
  | some (n, c) => if n ≤ 1000000000 ∧ (vt n).length = c then ((n : Int), ((a + c : Nat) : Int), true) else (0, 0, false)
/-- What ReadVar answers. -/
def rvOf (l : List UInt8) (a : Int) : Int × Int × Bool := if 0 ≤ a ∧ a ≤ l.length then rvFin a.toNat (leb 5 (l.drop a.toNat)) else (0, 0, false)
def pw (i : Nat) : Nat := 128 ^ i
theorem pw_succ (i : Nat) : pw (i + 1) = pw i * 128 := Nat.pow_succ _ _
theorem pw_pos (i : Nat) : 1 ≤ pw i := Nat.pow_pos (by omega)
theorem pw_le5 {i : Nat} (h : i ≤ 5) : 1 ≤ pw i ∧ pw i ≤ 34359738368 := ⟨pw_pos i, (Nat.pow_le_pow_right (by omega) h : 128 ^ i ≤ 128 ^ 5)⟩
theorem pw_le4 {i : Nat} (h : i ≤ 4) : pw i ≤ 268435456 := (Nat.pow_le_pow_right (by omega) h : 128 ^ i ≤ 128 ^ 4)
/-- Byte m's seven bits at place i. -/
def dg (m i : Nat) : Nat := m % 128 * pw i
theorem dg_le (m i : Nat) (h : i ≤ 4) : dg m i ≤ 34091302912 := (Nat.mul_le_mul (by omega) (pw_le4 h) : m % 128 * pw i ≤ 127 * 268435456)
theorem dg_lt {n0 m i : Nat} (h : n0 < pw i) : n0 + dg m i < pw (i + 1) := by
  have : dg m i ≤ 127 * pw i := Nat.mul_le_mul_right _ (by omega)
  rw [pw_succ]
  omega
/-- What is told behind i bytes. -/
def lebOn (n0 i : Nat) : Option (Nat × Nat) → Option (Nat × Nat)
  | none => none
  | some (n, c) => some (n0 + pw i * n, i + c)
theorem lebOn_step (f : Nat) (b : UInt8) (l : List UInt8) (n0 i : Nat) (hb : ¬ b.toNat < 128) : lebOn n0 i (leb (f + 1) (b :: l)) = lebOn (n0 + dg b.toNat i) (i + 1) (leb f l) := by
  rw [leb, if_neg hb]
  cases leb f l with
  | none => rfl
  | some p =>
    obtain ⟨n, c⟩ := p
    simp only [lebOn, pw_succ, dg]
    congr 2
    · rw [Nat.mul_add, Nat.mul_comm (pw i) (b.toNat % 128), Nat.mul_assoc, Nat.add_assoc]
    · omega
theorem lebOn_last (f : Nat) (b : UInt8) (l : List UInt8) (n0 i : Nat) (hb : b.toNat < 128) : lebOn n0 i (leb (f + 1) (b :: l)) = some (n0 + dg b.toNat i, i + 1) := by
  rw [leb, if_pos hb]
  simp only [lebOn, dg]
  rw [Nat.mod_eq_of_lt hb, Nat.mul_comm]
theorem lebOn_zero (x : Option (Nat × Nat)) : lebOn 0 0 x = x := by
  cases x with
  | none => rfl
  | some p => obtain ⟨n, c⟩ := p; simp [lebOn, pw]
/-- What ReadShort answers. -/
def rsFin (l : List UInt8) (r : Int × Int × Bool) : ByteArray × Int × Bool :=
  if r.2.2 = true ∧ r.1 ≤ 20000 ∧ r.1 ≤ (l.length : Int) - r.2.1 then (mk ((l.drop r.2.1.toNat).take r.1.toNat), r.2.1 + r.1, true) else (mk [], 0, false)
def rsOf (l : List UInt8) (a : Int) : ByteArray × Int × Bool := rsFin l (rvOf l a)
theorem rvOf_facts (l : List UInt8) (a : Int) (h : (rvOf l a).2.2 = true) : ∃ n c at_ : Nat, a = at_ ∧ rvOf l a = ((n : Int), ((at_ + c : Nat) : Int), true) ∧ 1 ≤ c ∧ c ≤ 5 ∧ at_ + c ≤ l.length ∧ n ≤ 1000000000 ∧ leb 5 (l.drop at_) = some (n, c) ∧ (vt n).length = c := by
  unfold rvOf at h ⊢
  by_cases hc : 0 ≤ a ∧ a ≤ l.length
  · rw [if_pos hc] at h ⊢
    obtain ⟨m, rfl⟩ := Int.eq_ofNat_of_zero_le hc.1
    rw [Int.toNat_natCast] at h ⊢
    cases hl : leb 5 (l.drop m) with
    | none => rw [hl] at h; simp [rvFin] at h
    | some p =>
      obtain ⟨n, c⟩ := p
      have hf := leb_facts 5 _ n c hl
      rw [List.length_drop] at hf
      rw [hl] at h
      unfold rvFin at h ⊢
      dsimp only at h ⊢
      by_cases hk : n ≤ 1000000000 ∧ (vt n).length = c
      · rw [if_pos hk]
        exact ⟨n, c, m, rfl, rfl, hf.1, hf.2.1, by omega, hk.1, hl, hk.2⟩
      · rw [if_neg hk] at h
        simp at h
  · rw [if_neg hc] at h
    simp at h
theorem spec_l01Var.ev0 (n : Nat) : ∀ (acc : List UInt8), n ≤ 9223372036854775807 → acc.length + (vt n).length ≤ 100 → Ev (fun k => spec_l01Var.l0 k (n : Int) (nm acc)) (mk (acc ++ vt n)) := by
  induction n using Nat.strongRecOn with
  | ind n ih =>
    intro acc hn hl
    have hal := nm_length acc
    by_cases h : 127 < n
    · have e1 : Int.tmod (n : Int) 128 = ((n % 128 : Nat) : Int) := tmod_nat n 128
      have e2 : Int.tdiv (n : Int) 128 = ((n / 128 : Nat) : Int) := tdiv_nat n 128
      rw [vt_big h] at hl ⊢
      have e3 : [(wrap64 ((Int.tmod (n : Int) 128) + 128)) % 256] = nm [UInt8.ofNat (n % 128 + 128)] := by
        rw [nm_u8 _ (by omega), e1, w64 (by omega) (by omega)]
        congr 1
        omega
      have := ih (n / 128) (by omega) (acc ++ [UInt8.ofNat (n % 128 + 128)]) (by omega) (by simp at hl ⊢; omega)
      rw [List.append_assoc, List.singleton_append] at this
      refine Ev.step (fun k => ?_) this
      show spec_l01Var.l0 (k + 1) _ _ = _
      rw [spec_l01Var.l0, if_pos (by omega), if_pos (by simp at hl; omega), e3, e2, w64 (by omega) (by omega), nm_append]
    · refine ⟨1, fun k hk => ?_⟩
      obtain ⟨k, rfl⟩ : ∃ m, k = m + 1 := ⟨k - 1, by omega⟩
      show spec_l01Var.l0 (k + 1) _ _ = _
      have e3 : [(n : Int) % 256] = nm [UInt8.ofNat n] := by
        rw [nm_u8 _ (by omega)]
        congr 1
        omega
      rw [vt_small (by omega)] at hl ⊢
      rw [spec_l01Var.l0, if_neg (by omega), if_pos (by simp at hl; omega), e3, ← nm_append, strOf_nm]
theorem spec_l01In.is (a lo hi : Int) : spec_l01In.f a lo hi = some (decide (lo ≤ a ∧ a ≤ hi)) := by
  unfold spec_l01In.f
  by_cases h : a ≥ lo
  · rw [if_pos h]
    congr 1
    simp only [decide_eq_decide]
    exact ⟨fun h' => ⟨h, h'⟩, fun h' => h'.2⟩
  · rw [if_neg h, decide_eq_false (fun h' => h h'.1)]
theorem spec_ReadVar.ev0 (l : List UInt8) (a : Nat) (ha : a ≤ l.length) (hs : l.length ≤ 140737488351232) (f : Nat) : ∀ (i n0 : Nat), i + f = 5 → a + i ≤ l.length → n0 < pw i → lebOn n0 i (leb f (l.drop (a + i))) = leb 5 (l.drop a) →
    Ev (fun k => spec_ReadVar.l0 k (mk l) (a : Int) (n0 : Int) ((pw i : Nat) : Int) ((a + i : Nat) : Int)) (rvFin a (leb 5 (l.drop a))) := by
  have hsz := mk_size l
  have e5 : Hd (wrap64 ((a : Int) + 5) = (a : Int) + 5) := Hd.mk <| w64 (by omega) (by omega)
  induction f with
  | zero =>
    intro i n0 hi hal hn hL
    rw [← hL]
    refine ⟨2, fun k hk => ?_⟩
    obtain ⟨k, rfl⟩ : ∃ m, k = m + 2 := ⟨k - 2, by omega⟩
    show spec_ReadVar.l0 (k + 2) _ _ _ _ _ = _
    rw [spec_ReadVar.l0, e5.out]
    by_cases hlt : a + i < l.length
    · rw [if_pos (by omega), decide_eq_false (by omega), spec_ReadVar.j1, if_neg (by simp)]
      rfl
    · rw [if_neg (by omega), spec_ReadVar.j1, if_neg (by simp)]
      rfl
  | succ f ih =>
    intro i n0 hi hal hn hL
    have hp := pw_le5 (i := i) (by omega)
    by_cases hlt : a + i < l.length
    · have hb : (l[a + i]).toNat < 256 := (l[a + i]).toNat_lt
      have eb := bt_mk l (a + i) hlt
      have ebw : Hd (wrap64 ((l[a + i]).toNat : Int) = ((l[a + i]).toNat : Int)) := Hd.mk <| w64 (by omega) (by omega)
      have e1 : Hd (Int.tmod ((l[a + i]).toNat : Int) 128 = (((l[a + i]).toNat % 128 : Nat) : Int)) := Hd.mk <| tmod_nat _ 128
      have hd := dg_le (l[a + i]).toNat i (by omega)
      have e2 : Hd (wrap64 ((((l[a + i]).toNat % 128 : Nat) : Int) * ((pw i : Nat) : Int)) = ((dg (l[a + i]).toNat i : Nat) : Int)) := Hd.mk <| by
        rw [← Int.natCast_mul]
        exact w64 (x := ((dg (l[a + i]).toNat i : Nat) : Int)) (by omega) (by omega)
      have e3 : Hd (wrap64 ((n0 : Int) + ((dg (l[a + i]).toNat i : Nat) : Int)) = ((n0 + dg (l[a + i]).toNat i : Nat) : Int)) := Hd.mk <| by rw [w64 (by omega) (by omega)]; omega
      have e4 : Hd (wrap64 (((a + i : Nat) : Int) + 1) = ((a + (i + 1) : Nat) : Int)) := Hd.mk <| by rw [w64 (by omega) (by omega)]; omega
      have ht : (mk l).extract ((a : Int)).toNat (((a + (i + 1) : Nat) : Int)).toNat = mk ((l.drop a).take (i + 1)) := by
        rw [mk_extract, Int.toNat_natCast, Int.toNat_natCast]
        congr 2
        omega
      by_cases h128 : (l[a + i]).toNat < 128
      · rw [drop_cons l (a + i) hlt, lebOn_last _ _ _ _ _ h128] at hL
        rw [← hL]
        obtain ⟨K, hK⟩ := spec_l01Var.ev0 (n0 + dg (l[a + i]).toNat i) [] (by omega) (by have := (vt_len8 (n := n0 + dg (l[a + i]).toNat i) (by omega)); simp; omega)
        dsimp only at hK
        refine ⟨K + 2, fun k hk => ?_⟩
        obtain ⟨k, rfl⟩ : ∃ m, k = m + 2 := ⟨k - 2, by omega⟩
        show spec_ReadVar.l0 (k + 2) _ _ _ _ _ = _
        rw [spec_ReadVar.l0, if_pos (by omega), e5.out, decide_eq_true (show ((a + i : Nat) : Int) < (a : Int) + 5 by omega), spec_ReadVar.j1, if_pos rfl, if_pos (by omega), if_pos (by omega), eb, if_pos (by omega), ebw.out, e1.out, e2.out, e3.out, e4.out]
        unfold spec_l01Var.f
        simp only [rvFin]
        by_cases hm : n0 + dg (l[a + i]).toNat i ≤ 1000000000
        · rw [if_neg (by omega), nm_nil, hK k (by omega), Option.bind_some, if_pos (by omega), if_pos (by omega), if_pos (by omega), ht, mk_toList, mk_toList, List.nil_append]
          by_cases hv : (vt (n0 + dg (l[a + i]).toNat i)).length = i + 1
          · have htx : vt (n0 + dg (l[a + i]).toNat i) = (l.drop a).take (i + 1) := leb_text 5 _ _ _ hL.symm hv
            rw [if_pos htx, if_pos ⟨hm, hv⟩]
          · rw [if_neg (fun h => hv (by rw [h, List.length_take, List.length_drop]; omega)), if_neg (fun h => hv h.2)]
        · rw [if_pos (by omega), if_neg (fun h => hm h.1)]
      · rw [drop_cons l (a + i) hlt, lebOn_step _ _ _ _ _ h128] at hL
        have hp2 : n0 + dg (l[a + i]).toNat i < pw (i + 1) := dg_lt hn
        have e6 : Hd (wrap64 (((pw i : Nat) : Int) * 128) = ((pw (i + 1) : Nat) : Int)) := Hd.mk <| by
          have := pw_succ i
          rw [w64 (by omega) (by omega)]
          omega
        obtain ⟨K, hK⟩ := ih (i + 1) _ (by omega) (by omega) hp2 hL
        dsimp only at hK
        refine ⟨K + 2, fun k hk => ?_⟩
        obtain ⟨k, rfl⟩ : ∃ m, k = m + 2 := ⟨k - 2, by omega⟩
        show spec_ReadVar.l0 (k + 2) _ _ _ _ _ = _
        rw [spec_ReadVar.l0, if_pos (by omega), e5.out, decide_eq_true (show ((a + i : Nat) : Int) < (a : Int) + 5 by omega), spec_ReadVar.j1, if_pos rfl, if_pos (by omega), if_pos (by omega), eb, if_neg (by omega), ebw.out, e1.out, e2.out, e3.out, e4.out, e6.out]
        exact hK k (by omega)
    · rw [List.drop_eq_nil_of_le (by omega)] at hL
      rw [← hL]
      refine ⟨2, fun k hk => ?_⟩
      obtain ⟨k, rfl⟩ : ∃ m, k = m + 2 := ⟨k - 2, by omega⟩
      show spec_ReadVar.l0 (k + 2) _ _ _ _ _ = _
      rw [spec_ReadVar.l0, if_neg (by omega), spec_ReadVar.j1, if_neg (by simp)]
      rfl
theorem spec_ReadVar.ev (l : List UInt8) (hs : l.length ≤ 140737488351232) (a : Int) : Ev (fun k => spec_ReadVar.f k (mk l) a) (rvOf l a) := by
  have hsz := mk_size l
  unfold rvOf
  by_cases h : 0 ≤ a ∧ a ≤ l.length
  · obtain ⟨n, rfl⟩ := Int.eq_ofNat_of_zero_le h.1
    obtain ⟨K, hK⟩ := spec_ReadVar.ev0 l n (by omega) hs 5 0 0 (by omega) (by omega) (pw_pos 0) (lebOn_zero _)
    dsimp only at hK
    refine ⟨K, fun k hk => ?_⟩
    show spec_ReadVar.f k _ _ = _
    unfold spec_ReadVar.f
    rw [hsz, spec_l01In.is, decide_eq_true h, if_pos h]
    exact hK k hk
  · refine ⟨0, fun k hk => ?_⟩
    show spec_ReadVar.f k _ _ = _
    unfold spec_ReadVar.f
    rw [hsz, spec_l01In.is, decide_eq_false h, if_neg h]
    rfl
theorem spec_ReadShort.ev (l : List UInt8) (hs : l.length ≤ 140737488351232) (a : Int) : Ev (fun k => spec_ReadShort.f k (mk l) a) (rsOf l a) := by
  have hsz := mk_size l
  obtain ⟨K, hK⟩ := spec_ReadVar.ev l hs a
  dsimp only at hK
  refine ⟨K, fun k hk => ?_⟩
  show spec_ReadShort.f k _ _ = _
  unfold spec_ReadShort.f rsOf rsFin
  rw [hK k hk, Option.bind_some]
  by_cases h : (rvOf l a).2.2 = true
  · obtain ⟨n, c, m, rfl, e, h1, h2, h3, h4, h5, h6⟩ := rvOf_facts l a h
    rw [e]
    dsimp only
    rw [if_pos rfl]
    have e1 : Hd (wrap64 (((mk l).size : Int) - ((m + c : Nat) : Int)) = ((l.length - (m + c) : Nat) : Int)) := Hd.mk <| by rw [w64 (by omega) (by omega)]; omega
    have e2 : Hd (wrap64 (((m + c : Nat) : Int) + (n : Int)) = ((m + c + n : Nat) : Int)) := Hd.mk <| by rw [w64 (by omega) (by omega)]; omega
    by_cases h7 : n ≤ 20000
    · by_cases h8 : m + c + n ≤ l.length
      · rw [if_neg (by omega), e1.out, if_neg (by omega), e2.out, if_pos (by omega), if_pos (by omega), if_pos (by omega), if_pos ⟨rfl, by omega, by omega⟩, mk_extract]
        congr 3
        · rw [Int.toNat_natCast, Int.toNat_natCast, Int.toNat_natCast]
          congr 1
          omega
      · rw [if_neg (by omega), e1.out, if_pos (by omega), if_neg (fun h' => by omega)]
        rfl
    · rw [if_pos (by omega), if_neg (fun h' => by omega)]
      rfl
  · rw [if_neg h, if_neg (fun h' => h h'.1)]
    rfl
theorem shl_digit (m i : Nat) (h : i ≤ 4) : shl .i64 ((m % 128 : Nat) : Int) (wrap64 (7 * (i : Int))) = ((dg m i : Nat) : Int) := by
  have e : ∀ j : Nat, j ≤ 28 → shl .i64 ((m % 128 : Nat) : Int) (j : Int) = ((m % 128 : Nat) : Int) * 2 ^ j := by
    intro j hj
    unfold shl
    rw [Int.toNat_natCast, Nat.min_eq_left (show j ≤ IntKind.i64.bits by simp [IntKind.bits]; omega), IntKind.wrap_i64]
    have h2 : 2 ^ j ≤ 2 ^ 28 := Nat.pow_le_pow_right (by omega) hj
    have h4 : m % 128 * 2 ^ j ≤ 127 * 268435456 := Nat.mul_le_mul (by omega) h2
    have h5 : ((m % 128 : Nat) : Int) * 2 ^ j = ((m % 128 * 2 ^ j : Nat) : Int) := by rw [Int.natCast_mul, Int.natCast_pow]; rfl
    rw [h5]
    omega
  rw [w64 (by omega) (by omega), show (7 : Int) * (i : Int) = ((7 * i : Nat) : Int) by omega, e (7 * i) (by omega)]
  unfold dg pw
  rw [Int.natCast_mul, Int.natCast_pow, show (128 : Nat) = 2 ^ 7 from rfl, Int.natCast_pow, ← Int.pow_mul]
  rfl
theorem impl_within.is (a lo hi : Int) : impl_within.f a lo hi = some (decide (lo ≤ a ∧ a ≤ hi)) := by
  unfold impl_within.f
  by_cases h : a ≥ lo
  · rw [if_pos h]
    congr 1
    simp only [decide_eq_decide]
    exact ⟨fun h' => ⟨h, h'⟩, fun h' => h'.2⟩
  · rw [if_neg h, decide_eq_false (fun h' => h h'.1)]
theorem impl_VarText.ev0 (n : Nat) : ∀ (acc : List UInt8), n ≤ 9223372036854775807 → acc.length + (vt n).length ≤ 100 → Ev (fun k => impl_VarText.l0 k (n : Int) (nm acc)) (mk (acc ++ vt n), true) := by
  induction n using Nat.strongRecOn with
  | ind n ih =>
    intro acc hn hl
    have hal := nm_length acc
    by_cases h : 127 < n
    · have e1 : Int.tmod (n : Int) 128 = ((n % 128 : Nat) : Int) := tmod_nat n 128
      have e2 : Int.tdiv (n : Int) 128 = ((n / 128 : Nat) : Int) := tdiv_nat n 128
      rw [vt_big h] at hl ⊢
      have e3 : [(wrap64 ((Int.tmod (n : Int) 128) + 128)) % 256] = nm [UInt8.ofNat (n % 128 + 128)] := by
        rw [nm_u8 _ (by omega), e1, w64 (by omega) (by omega)]
        congr 1
        omega
      have := ih (n / 128) (by omega) (acc ++ [UInt8.ofNat (n % 128 + 128)]) (by omega) (by simp at hl ⊢; omega)
      rw [List.append_assoc, List.singleton_append] at this
      refine Ev.step (fun k => ?_) this
      show impl_VarText.l0 (k + 1) _ _ = _
      rw [impl_VarText.l0, if_pos (by omega), if_pos (by simp at hl; omega), e3, e2, w64 (by omega) (by omega), nm_append]
    · refine ⟨1, fun k hk => ?_⟩
      obtain ⟨k, rfl⟩ : ∃ m, k = m + 1 := ⟨k - 1, by omega⟩
      show impl_VarText.l0 (k + 1) _ _ = _
      have e3 : [(n : Int) % 256] = nm [UInt8.ofNat n] := by
        rw [nm_u8 _ (by omega)]
        congr 1
        omega
      rw [vt_small (by omega)] at hl ⊢
      rw [impl_VarText.l0, if_neg (by omega), if_pos (by simp at hl; omega), e3, ← nm_append, strOf_nm]
theorem impl_VarText.ev (n : Int) : Ev (fun k => impl_VarText.f k n) (varOf n) := by
  unfold varOf
  by_cases h : 0 ≤ n ∧ n ≤ 1000000000
  · obtain ⟨m, rfl⟩ := Int.eq_ofNat_of_zero_le h.1
    have hl := vt_len5 (n := m) (by omega)
    obtain ⟨K, hK⟩ := impl_VarText.ev0 m [] (by omega) (by simp; omega)
    dsimp only at hK
    refine ⟨K, fun k hk => ?_⟩
    show impl_VarText.f k _ = _
    unfold impl_VarText.f
    rw [impl_within.is, decide_eq_true h, if_pos h]
    simp only [Option.bind_some, if_true]
    rw [nm_nil, hK k hk]
    rfl
  · refine ⟨0, fun k hk => ?_⟩
    show impl_VarText.f k _ = _
    unfold impl_VarText.f
    rw [impl_within.is, decide_eq_false h, if_neg h]
    rfl
theorem impl_ReadVar.ev0 (l : List UInt8) (a : Nat) (ha : a ≤ l.length) (hs : l.length ≤ 140737488351232) (f : Nat) : ∀ (i n0 : Nat), i + f = 5 → a + i ≤ l.length → n0 < pw i →
    Ev (fun k => impl_ReadVar.l0 k (mk l) (a : Int) (n0 : Int) (i : Int)) (rvFin a (lebOn n0 i (leb f (l.drop (a + i))))) := by
  have hsz := mk_size l
  induction f with
  | zero =>
    intro i n0 hi hal hn
    refine ⟨2, fun k hk => ?_⟩
    obtain ⟨k, rfl⟩ : ∃ m, k = m + 2 := ⟨k - 2, by omega⟩
    show impl_ReadVar.l0 (k + 2) _ _ _ _ = _
    rw [impl_ReadVar.l0, if_neg (by omega), impl_ReadVar.j1, if_neg (by simp)]
    rfl
  | succ f ih =>
    intro i n0 hi hal hn
    have hp := pw_le5 (i := i) (by omega)
    have ew : Hd (wrap64 ((a : Int) + (i : Int)) = ((a + i : Nat) : Int)) := Hd.mk <| by rw [w64 (by omega) (by omega)]; omega
    by_cases hlt : a + i < l.length
    · have hb : (l[a + i]).toNat < 256 := (l[a + i]).toNat_lt
      have eb : Hd (wrap64 (bt (mk l) ((a + i : Nat) : Int)) = ((l[a + i]).toNat : Int)) := Hd.mk <| by rw [bt_mk l _ hlt, w64 (by omega) (by omega)]
      have e1 : Hd (Int.tmod ((l[a + i]).toNat : Int) 128 = (((l[a + i]).toNat % 128 : Nat) : Int)) := Hd.mk <| tmod_nat _ 128
      have hd := dg_le (l[a + i]).toNat i (by omega)
      have e2 := shl_digit (l[a + i]).toNat i (by omega)
      have e3 : Hd (wrap64 ((n0 : Int) + ((dg (l[a + i]).toNat i : Nat) : Int)) = ((n0 + dg (l[a + i]).toNat i : Nat) : Int)) := Hd.mk <| by rw [w64 (by omega) (by omega)]; omega
      rw [drop_cons l (a + i) hlt]
      by_cases h128 : (l[a + i]).toNat < 128
      · rw [lebOn_last _ _ _ _ _ h128]
        obtain ⟨K, hK⟩ := impl_VarText.ev ((n0 + dg (l[a + i]).toNat i : Nat) : Int)
        dsimp only at hK
        refine ⟨K + 2, fun k hk => ?_⟩
        obtain ⟨k, rfl⟩ : ∃ m, k = m + 2 := ⟨k - 2, by omega⟩
        show impl_ReadVar.l0 (k + 2) _ _ _ _ = _
        rw [impl_ReadVar.l0, if_pos (by omega), ew.out, decide_eq_true (show ((a + i : Nat) : Int) < ((mk l).size : Int) by omega), impl_ReadVar.j1, if_pos rfl, ew.out, if_pos (by omega), if_pos (by omega),
          if_pos (by rw [w64 (by omega) (by omega)]; omega), eb.out, if_pos (by omega), e1.out, e2, e3.out, hK k (by omega), Option.bind_some]
        unfold varOf
        simp only [rvFin]
        by_cases hm : n0 + dg (l[a + i]).toNat i ≤ 1000000000
        · rw [if_pos (show 0 ≤ ((n0 + dg (l[a + i]).toNat i : Nat) : Int) ∧ ((n0 + dg (l[a + i]).toNat i : Nat) : Int) ≤ 1000000000 by omega)]
          simp only [if_true]
          rw [Int.toNat_natCast, mk_size, w64 (x := (i : Int) + 1) (by omega) (by omega)]
          by_cases hv : (vt (n0 + dg (l[a + i]).toNat i)).length = i + 1
          · rw [if_pos (by omega), if_pos ⟨hm, hv⟩, w64 (by omega) (by omega)]
            rfl
          · rw [if_neg (by omega), if_neg (fun h => hv h.2)]
        · rw [if_neg (show ¬ (0 ≤ ((n0 + dg (l[a + i]).toNat i : Nat) : Int) ∧ ((n0 + dg (l[a + i]).toNat i : Nat) : Int) ≤ 1000000000) by omega)]
          dsimp only
          rw [if_neg (by simp), if_neg (fun h => hm h.1)]
      · rw [lebOn_step _ _ _ _ _ h128]
        have hp2 : n0 + dg (l[a + i]).toNat i < pw (i + 1) := dg_lt hn
        obtain ⟨K, hK⟩ := ih (i + 1) _ (by omega) (by omega) hp2
        dsimp only at hK
        refine ⟨K + 2, fun k hk => ?_⟩
        obtain ⟨k, rfl⟩ : ∃ m, k = m + 2 := ⟨k - 2, by omega⟩
        show impl_ReadVar.l0 (k + 2) _ _ _ _ = _
        rw [impl_ReadVar.l0, if_pos (by omega), ew.out, decide_eq_true (show ((a + i : Nat) : Int) < ((mk l).size : Int) by omega), impl_ReadVar.j1, if_pos rfl, ew.out, if_pos (by omega), if_pos (by omega),
          if_pos (by rw [w64 (by omega) (by omega)]; omega), eb.out, if_neg (by omega), e1.out, e2, e3.out, w64 (x := (i : Int) + 1) (by omega) (by omega)]
        exact hK k (by omega)
    · rw [List.drop_eq_nil_of_le (by omega)]
      refine ⟨2, fun k hk => ?_⟩
      obtain ⟨k, rfl⟩ : ∃ m, k = m + 2 := ⟨k - 2, by omega⟩
      show impl_ReadVar.l0 (k + 2) _ _ _ _ = _
      rw [impl_ReadVar.l0, if_pos (by omega), ew.out, decide_eq_false (show ¬ ((a + i : Nat) : Int) < ((mk l).size : Int) by omega), impl_ReadVar.j1, if_neg (by simp)]
      rfl
theorem impl_ReadVar.ev (l : List UInt8) (hs : l.length ≤ 140737488351232) (a : Int) : Ev (fun k => impl_ReadVar.f k (mk l) a) (rvOf l a) := by
  have hsz := mk_size l
  unfold rvOf
  by_cases h : 0 ≤ a ∧ a ≤ l.length
  · obtain ⟨n, rfl⟩ := Int.eq_ofNat_of_zero_le h.1
    obtain ⟨K, hK⟩ := impl_ReadVar.ev0 l n (by omega) hs 5 0 0 (by omega) (by omega) (pw_pos 0)
    rw [lebOn_zero] at hK
    dsimp only at hK
    refine ⟨K, fun k hk => ?_⟩
    show impl_ReadVar.f k _ _ = _
    unfold impl_ReadVar.f
    rw [hsz, impl_within.is, decide_eq_true h, if_pos h]
    exact hK k hk
  · refine ⟨0, fun k hk => ?_⟩
    show impl_ReadVar.f k _ _ = _
    unfold impl_ReadVar.f
    rw [hsz, impl_within.is, decide_eq_false h, if_neg h]
    rfl
theorem impl_ReadShort.ev (l : List UInt8) (hs : l.length ≤ 140737488351232) (a : Int) : Ev (fun k => impl_ReadShort.f k (mk l) a) (rsOf l a) := by
  have hsz := mk_size l
  obtain ⟨K, hK⟩ := impl_ReadVar.ev l hs a
  dsimp only at hK
  refine ⟨K, fun k hk => ?_⟩
  show impl_ReadShort.f k _ _ = _
  unfold impl_ReadShort.f rsOf rsFin
  rw [hK k hk, Option.bind_some]
  by_cases h : (rvOf l a).2.2 = true
  · obtain ⟨n, c, m, rfl, e, h1, h2, h3, h4, h5, h6⟩ := rvOf_facts l a h
    rw [e]
    dsimp only
    rw [if_pos rfl]
    have e1 : Hd (wrap64 (((mk l).size : Int) - ((m + c : Nat) : Int)) = ((l.length - (m + c) : Nat) : Int)) := Hd.mk <| by rw [w64 (by omega) (by omega)]; omega
    have e2 : Hd (wrap64 (((m + c : Nat) : Int) + (n : Int)) = ((m + c + n : Nat) : Int)) := Hd.mk <| by rw [w64 (by omega) (by omega)]; omega
    by_cases h7 : n ≤ 20000
    · by_cases h8 : m + c + n ≤ l.length
      · rw [if_neg (by omega), e1.out, if_neg (by omega), e2.out, if_pos (by omega), if_pos (by omega), if_pos (by omega), if_pos ⟨rfl, by omega, by omega⟩, mk_extract]
        congr 3
        · rw [Int.toNat_natCast, Int.toNat_natCast, Int.toNat_natCast]
          congr 1
          omega
      · rw [if_neg (by omega), e1.out, if_pos (by omega), if_neg (fun h' => by omega)]
        rfl
    · rw [if_pos (by omega), if_neg (fun h' => by omega)]
      rfl
  · rw [if_neg h, if_neg (fun h' => h h'.1)]
    rfl
theorem FnExactReadShort : laws_FnExactReadShort.Pure := by
  intro s a hs ha
  obtain ⟨l, rfl⟩ := mk_of s
  have hsz := mk_size l
  obtain ⟨K1, h1⟩ := spec_ReadShort.ev l (by omega) a
  obtain ⟨K2, h2⟩ := impl_ReadShort.ev l (by omega) a
  dsimp only at h1 h2
  refine ⟨K1 + K2, ?_⟩
  unfold laws_FnExactReadShort.f
  rw [h1 _ (by omega), h2 _ (by omega)]
  by_cases hc : ((mk l).size : Int) > 1048576
  · rw [if_pos hc]
  · rw [if_neg hc]; simp

end Go.Proofs.Ytmdenlpaahlkbaa.Pure
