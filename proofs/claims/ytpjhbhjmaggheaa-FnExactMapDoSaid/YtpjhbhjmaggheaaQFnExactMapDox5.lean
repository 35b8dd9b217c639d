-- By a program of this session, over the kit's print.
import Derived.Test.YtpjhbhjmaggheaaQFnExactMapDox0
import Derived.Test.YtpjhbhjmaggheaaQFnExactMapDox3
import Derived.Test.YtpjhbhjmaggheaaQFnExactMapDox4
namespace Go.Proofs.Ytpjhbhjmaggheaa.QFnExactMapDo
open Go.RowKit Go.Proofs.YtpjhbhjmaggheaaW.PrintWords Go.Proofs.YtpjhbhjmaggheaaW.PrintLast Go.Proofs.YtpjhbhjmaggheaaW.PrintMore
attribute [local go_sem] max2_int min2_int max_two min_two max_three min_three max_four min_four   -- for this text's walks alone
set_option linter.unusedVariables false
set_option linter.unusedSimpArgs false

/-! ### spec_l06Put: function 96 -/
mutual
def spec_l06Put.l0 : Nat → List (S59) → ByteArray → ByteArray → List (S59) → Int → Option ((List (S59)))
  | 0, _, _, _, _, _ => none
  | k + 1, x0, x1, x2, x7, x8 => if x8 < (x0.length : Int) then (if 0 ≤ x8 then (if (Op.bytesLess (((rd_T59 x0 x8).f0).toList) x1.toList) = true then (if x7.length < 4398046511104 then (spec_l06Put.l0 k x0 x1 x2 (x7 ++ [(⟨(rd_T59 x0 x8).f0, (rd_T59 x0 x8).f1⟩ : S59)]) (wrap64 (x8 + 1))) else (none)) else (spec_l06Put.l0 k x0 x1 x2 x7 (wrap64 (x8 + 1)))) else (none)) else (if x7.length < 4398046511104 then (spec_l06Put.l1 k x0 x1 (x7 ++ [(⟨x1, x2⟩ : S59)]) 0) else (none))
def spec_l06Put.l1 : Nat → List (S59) → ByteArray → List (S59) → Int → Option ((List (S59)))
  | 0, _, _, _, _ => none
  | k + 1, x0, x1, x7, x9 => if x9 < (x0.length : Int) then (if 0 ≤ x9 then (if (Op.bytesLess x1.toList (((rd_T59 x0 x9).f0).toList)) = true then (if x7.length < 4398046511104 then (spec_l06Put.l1 k x0 x1 (x7 ++ [(⟨(rd_T59 x0 x9).f0, (rd_T59 x0 x9).f1⟩ : S59)]) (wrap64 (x9 + 1))) else (none)) else (spec_l06Put.l1 k x0 x1 x7 (wrap64 (x9 + 1)))) else (none)) else (some x7)
end
def spec_l06Put.f (k : Nat) (l0 : List (S59)) (a1 : ByteArray) (a2 : ByteArray) : Option ((List (S59))) := spec_l06Put.l0 k l0 a1 a2 (([] : List (S59))) 0
theorem spec_l06Put.mono_l : ∀ k, (∀ y0 y1 y2 y3 y4, LeO (spec_l06Put.l0 k y0 y1 y2 y3 y4) (spec_l06Put.l0 (k + 1) y0 y1 y2 y3 y4)) ∧ (∀ y0 y1 y2 y3, LeO (spec_l06Put.l1 k y0 y1 y2 y3) (spec_l06Put.l1 (k + 1) y0 y1 y2 y3))
  | 0 => ⟨fun _ _ _ _ _ r h => by simp [spec_l06Put.l0] at h, fun _ _ _ _ r h => by simp [spec_l06Put.l1] at h⟩
  | k + 1 => by
    obtain ⟨ih0, ih1⟩ := spec_l06Put.mono_l k
    refine ⟨?_, ?_⟩
    · intro y0 y1 y2 y3 y4
      unfold spec_l06Put.l0
      repeat' first
      | (with_reducible exact ih0 _ _ _ _ _)
      | (with_reducible exact ih1 _ _ _ _)
      | (with_reducible exact LeO.refl _)
      | (with_reducible exact LeO.none _)
      | (with_reducible refine LeO.ite ?_ ?_)
      | (with_reducible refine LeO.bind ?_ (fun _ => ?_))
      | exact ih0 _ _ _ _ _
      | exact ih1 _ _ _ _
      | exact LeO.none _
      | refine LeO.ite ?_ ?_
      | refine LeO.bind ?_ (fun _ => ?_)
    · intro y0 y1 y2 y3
      unfold spec_l06Put.l1
      repeat' first
      | (with_reducible exact ih0 _ _ _ _ _)
      | (with_reducible exact ih1 _ _ _ _)
      | (with_reducible exact LeO.refl _)
      | (with_reducible exact LeO.none _)
      | (with_reducible refine LeO.ite ?_ ?_)
      | (with_reducible refine LeO.bind ?_ (fun _ => ?_))
      | exact ih0 _ _ _ _ _
      | exact ih1 _ _ _ _
      | exact LeO.none _
      | refine LeO.ite ?_ ?_
      | refine LeO.bind ?_ (fun _ => ?_)
theorem spec_l06Put.mono : ∀ a0 a1 a2 k, LeO (spec_l06Put.f k a0 a1 a2) (spec_l06Put.f (k + 1) a0 a1 a2) := by
  intro a0 a1 a2 k
  obtain ⟨ih0, ih1⟩ := spec_l06Put.mono_l k
  unfold spec_l06Put.f
  repeat' first
      | (with_reducible exact ih0 _ _ _ _ _)
      | (with_reducible exact ih1 _ _ _ _)
      | (with_reducible exact LeO.refl _)
      | (with_reducible exact LeO.none _)
      | (with_reducible refine LeO.ite ?_ ?_)
      | (with_reducible refine LeO.bind ?_ (fun _ => ?_))
      | exact ih0 _ _ _ _ _
      | exact ih1 _ _ _ _
      | exact LeO.none _
      | refine LeO.ite ?_ ?_
      | refine LeO.bind ?_ (fun _ => ?_)
set_option maxHeartbeats 8000000 in
set_option maxRecDepth 100000 in
theorem spec_l06Put.calls (k : Nat) (A0 : Option Addr) (c0 : Nat) (l0 : List (S59)) (a1 : ByteArray) (a2 : ByteArray) (r : List (S59)) (w : World) (hr0 : Kd.C k59 w A0 l0.length l0) (hc0 : l0.length ≤ c0) (h : spec_l06Put.f k l0 a1 a2 = some r) :
    Calls Try.prog 96 #[.slice A0 l0.length c0, .string a1, .string a2] w fun e w' => ∃ v0_ : Value, e = .returned (v0_) ∧ Kd.R k59 59 w' w.heap.size (fun _ => True) v0_ r ∧ Below w.heap.size w w' := by
  have hu59 := Try.underlying59
  have HR0 := Aside0.mk hr0
  have HC0 := Aside0.mk hc0
  clear hr0 hc0
  have HB := Aside0.mk (Below.refl w.heap.size w)
  have H : (spec_l06Put.l0 k l0 a1 a2 (([] : List (S59))) 0) = some r := h
  clear h
  obtain ⟨y179, hy179⟩ : ∃ y_ : List (S59), y_ = (([] : List (S59))) := ⟨_, rfl⟩
  replace H : (spec_l06Put.l0 k l0 a1 a2 y179 0) = some r := by first | (rw [hy179]; with_reducible exact H) | (have H2_ := (Option.bind_some _ _).symm.trans H; rw [hy179]; with_reducible exact H2_) | (have H2_ := (Option.bind_some _ _).symm.trans H; with_reducible exact H2_) | with_reducible exact H | (rw [hy179]; exact H) | exact H
  have Ny179 := Aside0.mk hy179
  clear hy179
  have H' := Aside0.mk H
  clear H
  go_enter Try.func96, Try.ntmps96
  go_wp2_with (first | ((with_reducible refine gate_dst (N := 10) rfl ?_); refine Kd.R_lit k59 _ 59 ?hg (N := 10) ?hd (xs := ([] : List (S59))) (inner := []) (ok := fun _ => True) (okp := fun _ => True) ?hr ?hp (fun _ hk => hk) trivial (Below.refl _ _) (Nat.le_refl _) (by simp) ?_; (case hd => rfl); (case hg => rfl); (case hr => first | (go_simp; done) | (go_simp; rfl)); (case hp => exact (Reps.none _ _)); intro v180 w4 ho5 hb hg_ hnew_; clear hg_ hnew_; (first | rw [← Ny179.out] at ho5 | (simp only [Int.reduceToNat] at ho5; rw [← Ny179.out] at ho5)); have HO181 := Aside0.mk (Kd.R_lower ho5 (below_size t0_)); replace HB := Aside0.mk (below_step t0_ hb); clear hb ho5))
  go_loopg [7, 8] k (fun kq v7 v8 w' => ∃ (x7_1 : List (S59)) (x8_1 : Int), v8 = .int .i64 x8_1 ∧ Aside0 (spec_l06Put.l0 kq l0 a1 a2 x7_1 x8_1 = some r) ∧ Aside0 (kq ≤ k) ∧ Aside0 (Kd.R k59 59 w' w.heap.size (fun _ => True) v7 x7_1) ∧ Aside0 (Below w.heap.size w w'))
  case atStart => exact ⟨(y179), (0), t10_, H', ⟨Nat.le_refl _⟩, ⟨by (with_reducible repeat (first | apply Kd.R_alloc | apply Kd.R_drewN | apply Kd.R_drew)); exact HO181.out⟩, ⟨t0_⟩⟩
  case round =>
    clear H'
    try clear p2
    obtain ⟨x7_1, x8_1, rfl, HA, HK1, HO_7, HB⟩ := hrel
    cases gk with
    | zero => exact absurd HA.out (by simp [spec_l06Put.l0])
    | succ k1 =>
      have H := HA.out
      clear HA
      simp only [spec_l06Put.l0] at H
      by_cases c6 : x8_1 < (l0.length : Int)
      · rw [if_pos c6] at H
        have c6b0 : decide (x8_1 < (l0.length : Int)) = true := decide_eq_true c6
        clear c6
        by_cases c7 : 0 ≤ x8_1
        · rw [if_pos c7] at H
          have c7b0 : decide (0 ≤ x8_1) = true := decide_eq_true c7
          clear c7
          by_cases c8 : (Op.bytesLess (((rd_T59 l0 x8_1).f0).toList) a1.toList) = true
          · rw [if_pos c8] at H
            have c8b0 : (Op.bytesLess (((rd_T59 l0 x8_1).f0).toList) a1.toList) = true := c8
            obtain ⟨c8b7, c8b6⟩ := bl_gtr_t c8b0
            clear c8
            by_cases c9 : x7_1.length < 4398046511104
            · rw [if_pos c9] at H
              have LMc9 := Aside0.mk c9
              clear c9
              obtain ⟨y184, hy184⟩ : ∃ y_ : List (S59), y_ = (x7_1 ++ [(⟨(rd_T59 l0 x8_1).f0, (rd_T59 l0 x8_1).f1⟩ : S59)]) := ⟨_, rfl⟩
              replace H : (spec_l06Put.l0 k1 l0 a1 a2 y184 (wrap64 (x8_1 + 1))) = some r := by first | (rw [hy184]; with_reducible exact H) | (have H2_ := (Option.bind_some _ _).symm.trans H; rw [hy184]; with_reducible exact H2_) | (have H2_ := (Option.bind_some _ _).symm.trans H; with_reducible exact H2_) | with_reducible exact H | (rw [hy184]; exact H) | exact H
              have Ny184 := Aside0.mk hy184
              clear hy184
              have H' := Aside0.mk H
              clear H
              have p182 : 0 ≤ (x8_1 : Int) := of_decide_eq_true t4_
              have q182 : x8_1 < (l0.length : Int) := of_decide_eq_true t4_
              obtain ⟨ad182, e182, hx182_0, hx182_1⟩ := at_T59 HR0.out x8_1 p182 q182
              cases e182
              replace hx182_0 := (HB.out.cell (World.block_lt_of_cell? w _ hx182_0)).trans hx182_0
              replace hx182_1 := (HB.out.cell (World.block_lt_of_cell? w _ hx182_1)).trans hx182_1
              replace p182 := eq_true p182
              replace q182 := eq_true q182
              have p183 : 0 ≤ (x8_1 : Int) := of_decide_eq_true t4_
              have q183 : x8_1 < (l0.length : Int) := of_decide_eq_true t4_
              obtain ⟨ad183, e183, hx183_0, hx183_1⟩ := at_T59 HR0.out x8_1 p183 q183
              obtain rfl : ad182 = ad183 := (by injection e183)
              replace hx183_0 := (HB.out.cell (World.block_lt_of_cell? w _ hx183_0)).trans hx183_0
              replace hx183_1 := (HB.out.cell (World.block_lt_of_cell? w _ hx183_1)).trans hx183_1
              replace p183 := eq_true p183
              replace q183 := eq_true q183
              go_wp2_with (first | ((with_reducible refine gate_builtin (b := .append) (xs := #[.tmp 24, .tmp 29]) rfl ?_); at_builtin; refine Kd.R_append k59 (w0 := w) w.heap.size rfl (.tmp 24) (.tmp 29) 43 59 (.agg #[(.string ⟨#[]⟩), (.string ⟨#[]⟩)]) 32 rfl Try.underlying43 info59 rfl (by decide) (by omega) u7 x7_1 (⟨(rd_T59 l0 x8_1).f0, (rd_T59 l0 x8_1).f1⟩ : S59) [.string ((rd_T59 l0 x8_1).f0), .string ((rd_T59 l0 x8_1).f1)] (fun _ => True) (fun _ => False) rfl rfl ?aP (fun _ hk => hk.elim) ?aF ?aO ?aB ?aS ?aL ?_; (case aP => exact k59_mkM _ _ _ (⟨(rd_T59 l0 x8_1).f0, (rd_T59 l0 x8_1).f1⟩ : S59)); (case aB => exact t0_); (case aF => exact (fun _ _ => trivial)); (case aO => exact (by (with_reducible repeat (first | apply Kd.R_alloc | apply Kd.R_drewN | apply Kd.R_drew)); exact HO_7.out)); (case aS => exact (below_size t0_)); (case aL => have := LMc9.out; omega); intro v185 w10 ho hb hg hat; rw [← Ny184.out] at ho; have n0_ := Aside0.mk (hb); have n1_ := Aside0.mk (ho); clear HB; clear HO_7; have HB := n0_; have HO186 := n1_; clear n0_ n1_; clear ho hb hg hat))
              go_roundg k1
              case measure => have := HK1.out; omega
              case rel => exact ⟨(y184), (wrap64 (x8_1 + 1)), t10_, H', ⟨by have := HK1.out; omega⟩, ⟨by (with_reducible repeat (first | apply Kd.R_alloc | apply Kd.R_drewN | apply Kd.R_drew)); exact HO186.out⟩, ⟨t0_⟩⟩
            · rw [if_neg c9] at H
              exact absurd H (by simp)
          · rw [if_neg c8] at H
            have c8b0 : (Op.bytesLess (((rd_T59 l0 x8_1).f0).toList) a1.toList) = false := by simpa using c8
            obtain ⟨c8b7, c8b6⟩ := bl_gtr_f c8b0
            clear c8
            have H' := Aside0.mk H
            clear H
            have p182 : 0 ≤ (x8_1 : Int) := of_decide_eq_true t4_
            have q182 : x8_1 < (l0.length : Int) := of_decide_eq_true t4_
            obtain ⟨ad182, e182, hx182_0, hx182_1⟩ := at_T59 HR0.out x8_1 p182 q182
            cases e182
            replace hx182_0 := (HB.out.cell (World.block_lt_of_cell? w _ hx182_0)).trans hx182_0
            replace hx182_1 := (HB.out.cell (World.block_lt_of_cell? w _ hx182_1)).trans hx182_1
            replace p182 := eq_true p182
            replace q182 := eq_true q182
            go_wp2
            go_roundg k1
            case measure => have := HK1.out; omega
            case rel => exact ⟨(x7_1), (wrap64 (x8_1 + 1)), t10_, H', ⟨by have := HK1.out; omega⟩, ⟨by (with_reducible repeat (first | apply Kd.R_alloc | apply Kd.R_drewN | apply Kd.R_drew)); exact HO_7.out⟩, ⟨t0_⟩⟩
        · rw [if_neg c7] at H
          exact absurd H (by simp)
      · rw [if_neg c6] at H
        have c6b0 : decide (x8_1 < (l0.length : Int)) = false := decide_eq_false c6
        clear c6
        by_cases c11 : x7_1.length < 4398046511104
        · rw [if_pos c11] at H
          have LMc11 := Aside0.mk c11
          clear c11
          obtain ⟨y187, hy187⟩ : ∃ y_ : List (S59), y_ = (x7_1 ++ [(⟨a1, a2⟩ : S59)]) := ⟨_, rfl⟩
          replace H : (spec_l06Put.l1 k1 l0 a1 y187 0) = some r := by first | (rw [hy187]; with_reducible exact H) | (have H2_ := (Option.bind_some _ _).symm.trans H; rw [hy187]; with_reducible exact H2_) | (have H2_ := (Option.bind_some _ _).symm.trans H; with_reducible exact H2_) | with_reducible exact H | (rw [hy187]; exact H) | exact H
          have Ny187 := Aside0.mk hy187
          clear hy187
          have H' := Aside0.mk H
          clear H
          go_wp2_with (first | ((with_reducible refine gate_builtin (b := .append) (xs := #[.tmp 31, .tmp 35]) rfl ?_); at_builtin; refine Kd.R_append k59 (w0 := w) w.heap.size rfl (.tmp 31) (.tmp 35) 43 59 (.agg #[(.string ⟨#[]⟩), (.string ⟨#[]⟩)]) 32 rfl Try.underlying43 info59 rfl (by decide) (by omega) u7 x7_1 (⟨a1, a2⟩ : S59) [.string a1, .string a2] (fun _ => True) (fun _ => False) rfl rfl ?aP (fun _ hk => hk.elim) ?aF ?aO ?aB ?aS ?aL ?_; (case aP => exact k59_mkM _ _ _ (⟨a1, a2⟩ : S59)); (case aB => exact t0_); (case aF => exact (fun _ _ => trivial)); (case aO => exact (by (with_reducible repeat (first | apply Kd.R_alloc | apply Kd.R_drewN | apply Kd.R_drew)); exact HO_7.out)); (case aS => exact (below_size t0_)); (case aL => have := LMc11.out; omega); intro v188 w12 ho hb hg hat; rw [← Ny187.out] at ho; have n0_ := Aside0.mk (hb); have n1_ := Aside0.mk (ho); clear HB; clear HO_7; have HB := n0_; have HO189 := n1_; clear n0_ n1_; clear ho hb hg hat))
          go_loopg [7, 9] k1 (fun kq v7 v9 w' => ∃ (x7_2 : List (S59)) (x9_2 : Int), v9 = .int .i64 x9_2 ∧ Aside0 (spec_l06Put.l1 kq l0 a1 x7_2 x9_2 = some r) ∧ Aside0 (kq ≤ k1) ∧ Aside0 (Kd.R k59 59 w' w.heap.size (fun _ => True) v7 x7_2) ∧ Aside0 (Below w.heap.size w w'))
          case atStart => exact ⟨(y187), (0), t10_, H', ⟨Nat.le_refl _⟩, ⟨by (with_reducible repeat (first | apply Kd.R_alloc | apply Kd.R_drewN | apply Kd.R_drew)); exact HO189.out⟩, ⟨t0_⟩⟩
          case round =>
            clear H'
            try clear c1
            try clear p1
            try clear q1
            try clear hx1
            try clear p2
            try clear c6
            try clear c6b0
            try clear p6
            try clear c7
            try clear c7b0
            try clear c8
            try clear c8b0
            try clear c9
            try clear c11
            try clear hx182_0
            try clear hx182_1
            try clear hx183_0
            try clear hx183_1
            try clear p182
            try clear p183
            try clear p2
            try clear q182
            try clear q183
            obtain ⟨x7_2, x9_2, rfl, HA, HK2, HO_7, HB⟩ := hrel
            cases gk with
            | zero => exact absurd HA.out (by simp [spec_l06Put.l1])
            | succ k2 =>
              have H := HA.out
              clear HA
              simp only [spec_l06Put.l1] at H
              by_cases c13 : x9_2 < (l0.length : Int)
              · rw [if_pos c13] at H
                have c13b0 : decide (x9_2 < (l0.length : Int)) = true := decide_eq_true c13
                clear c13
                by_cases c14 : 0 ≤ x9_2
                · rw [if_pos c14] at H
                  have c14b0 : decide (0 ≤ x9_2) = true := decide_eq_true c14
                  clear c14
                  by_cases c15 : (Op.bytesLess a1.toList (((rd_T59 l0 x9_2).f0).toList)) = true
                  · rw [if_pos c15] at H
                    have c15b0 : (Op.bytesLess a1.toList (((rd_T59 l0 x9_2).f0).toList)) = true := c15
                    obtain ⟨c15b7, c15b6⟩ := bl_gtr_t c15b0
                    clear c15
                    by_cases c16 : x7_2.length < 4398046511104
                    · rw [if_pos c16] at H
                      have LMc16 := Aside0.mk c16
                      clear c16
                      obtain ⟨y192, hy192⟩ : ∃ y_ : List (S59), y_ = (x7_2 ++ [(⟨(rd_T59 l0 x9_2).f0, (rd_T59 l0 x9_2).f1⟩ : S59)]) := ⟨_, rfl⟩
                      replace H : (spec_l06Put.l1 k2 l0 a1 y192 (wrap64 (x9_2 + 1))) = some r := by first | (rw [hy192]; with_reducible exact H) | (have H2_ := (Option.bind_some _ _).symm.trans H; rw [hy192]; with_reducible exact H2_) | (have H2_ := (Option.bind_some _ _).symm.trans H; with_reducible exact H2_) | with_reducible exact H | (rw [hy192]; exact H) | exact H
                      have Ny192 := Aside0.mk hy192
                      clear hy192
                      have H' := Aside0.mk H
                      clear H
                      have p190 : 0 ≤ (x9_2 : Int) := of_decide_eq_true t4_
                      have q190 : x9_2 < (l0.length : Int) := of_decide_eq_true t4_
                      obtain ⟨ad190, e190, hx190_0, hx190_1⟩ := at_T59 HR0.out x9_2 p190 q190
                      cases e190
                      replace hx190_0 := (HB.out.cell (World.block_lt_of_cell? w _ hx190_0)).trans hx190_0
                      replace hx190_1 := (HB.out.cell (World.block_lt_of_cell? w _ hx190_1)).trans hx190_1
                      replace p190 := eq_true p190
                      replace q190 := eq_true q190
                      have p191 : 0 ≤ (x9_2 : Int) := of_decide_eq_true t4_
                      have q191 : x9_2 < (l0.length : Int) := of_decide_eq_true t4_
                      obtain ⟨ad191, e191, hx191_0, hx191_1⟩ := at_T59 HR0.out x9_2 p191 q191
                      obtain rfl : ad190 = ad191 := (by injection e191)
                      replace hx191_0 := (HB.out.cell (World.block_lt_of_cell? w _ hx191_0)).trans hx191_0
                      replace hx191_1 := (HB.out.cell (World.block_lt_of_cell? w _ hx191_1)).trans hx191_1
                      replace p191 := eq_true p191
                      replace q191 := eq_true q191
                      go_wp2_with (first | ((with_reducible refine gate_builtin (b := .append) (xs := #[.tmp 50, .tmp 55]) rfl ?_); at_builtin; refine Kd.R_append k59 (w0 := w) w.heap.size rfl (.tmp 50) (.tmp 55) 43 59 (.agg #[(.string ⟨#[]⟩), (.string ⟨#[]⟩)]) 32 rfl Try.underlying43 info59 rfl (by decide) (by omega) u7 x7_2 (⟨(rd_T59 l0 x9_2).f0, (rd_T59 l0 x9_2).f1⟩ : S59) [.string ((rd_T59 l0 x9_2).f0), .string ((rd_T59 l0 x9_2).f1)] (fun _ => True) (fun _ => False) rfl rfl ?aP (fun _ hk => hk.elim) ?aF ?aO ?aB ?aS ?aL ?_; (case aP => exact k59_mkM _ _ _ (⟨(rd_T59 l0 x9_2).f0, (rd_T59 l0 x9_2).f1⟩ : S59)); (case aB => exact t0_); (case aF => exact (fun _ _ => trivial)); (case aO => exact (by (with_reducible repeat (first | apply Kd.R_alloc | apply Kd.R_drewN | apply Kd.R_drew)); exact HO_7.out)); (case aS => exact (below_size t0_)); (case aL => have := LMc16.out; omega); intro v193 w17 ho hb hg hat; rw [← Ny192.out] at ho; have n0_ := Aside0.mk (hb); have n1_ := Aside0.mk (ho); clear HB; clear HO_7; have HB := n0_; have HO194 := n1_; clear n0_ n1_; clear ho hb hg hat))
                      go_roundg k2
                      case measure => have := HK1.out; have := HK2.out; omega
                      case rel => exact ⟨(y192), (wrap64 (x9_2 + 1)), t10_, H', ⟨by have := HK1.out; have := HK2.out; omega⟩, ⟨by (with_reducible repeat (first | apply Kd.R_alloc | apply Kd.R_drewN | apply Kd.R_drew)); exact HO194.out⟩, ⟨t0_⟩⟩
                    · rw [if_neg c16] at H
                      exact absurd H (by simp)
                  · rw [if_neg c15] at H
                    have c15b0 : (Op.bytesLess a1.toList (((rd_T59 l0 x9_2).f0).toList)) = false := by simpa using c15
                    obtain ⟨c15b7, c15b6⟩ := bl_gtr_f c15b0
                    clear c15
                    have H' := Aside0.mk H
                    clear H
                    have p190 : 0 ≤ (x9_2 : Int) := of_decide_eq_true t4_
                    have q190 : x9_2 < (l0.length : Int) := of_decide_eq_true t4_
                    obtain ⟨ad190, e190, hx190_0, hx190_1⟩ := at_T59 HR0.out x9_2 p190 q190
                    cases e190
                    replace hx190_0 := (HB.out.cell (World.block_lt_of_cell? w _ hx190_0)).trans hx190_0
                    replace hx190_1 := (HB.out.cell (World.block_lt_of_cell? w _ hx190_1)).trans hx190_1
                    replace p190 := eq_true p190
                    replace q190 := eq_true q190
                    go_wp2
                    go_roundg k2
                    case measure => have := HK1.out; have := HK2.out; omega
                    case rel => exact ⟨(x7_2), (wrap64 (x9_2 + 1)), t10_, H', ⟨by have := HK1.out; have := HK2.out; omega⟩, ⟨by (with_reducible repeat (first | apply Kd.R_alloc | apply Kd.R_drewN | apply Kd.R_drew)); exact HO_7.out⟩, ⟨t0_⟩⟩
                · rw [if_neg c14] at H
                  exact absurd H (by simp)
              · rw [if_neg c13] at H
                have c13b0 : decide (x9_2 < (l0.length : Int)) = false := decide_eq_false c13
                clear c13
                obtain rfl := Option.some.inj H
                go_wp2
                go_ret
                exact ⟨_, by first | rfl | (simp [errW_none, errW_some] <;> rfl) | (simp [*, errW_none, errW_some] <;> rfl), by (with_reducible repeat (first | apply Kd.R_alloc | apply Kd.R_drewN | apply Kd.R_drew)); exact HO_7.out, t0_⟩
        · rw [if_neg c11] at H
          exact absurd H (by simp)

/-! ### spec_MapDo: function 43 -/
mutual
def spec_MapDo.j0 : Nat → List (S59) → Bool → Int → List (S109) → Option ((List (S59)) × Bool)
  | 0, _, _, _, _ => none
  | k + 1, x0, x15, x196000, x196001 => if x15 = true then (some ((([] : List (S59))), false)) else ((some (([] : List (S59)) : List (S59))).bind fun y201 => (if y201.length + x0.length < 4398046511104 then (spec_MapDo.l0 k (y201 ++ x0) 0 x196000 x196001) else (none)))
def spec_MapDo.l0 : Nat → List (S59) → Int → Int → List (S109) → Option ((List (S59)) × Bool)
  | 0, _, _, _, _ => none
  | k + 1, x6, x7, x196000, x196001 => if x7 < (x196001.length : Int) then (if 0 ≤ x7 then (if (rd_T109 x196001 x7).f2 = true then ((spec_l06Cut.f k x6 ((rd_T109 x196001 x7).f0)).bind fun t213 => (spec_MapDo.l0 k t213 (wrap64 (x7 + 1)) x196000 x196001)) else ((spec_l06Put.f k x6 ((rd_T109 x196001 x7).f0) ((rd_T109 x196001 x7).f1)).bind fun t218 => (spec_MapDo.l0 k t218 (wrap64 (x7 + 1)) x196000 x196001))) else (none)) else ((spec_MapOk.f k x6).bind fun t207 => (if t207 = true then (some (x6, true)) else (some ((([] : List (S59))), false))))
end
def spec_MapDo.f (k : Nat) (l0 : List (S59)) (a1_0 : Int) (l1_1 : List (S109)) : Option ((List (S59)) × Bool) := (spec_MapOk.f k l0).bind fun t196 => (if t196 = true then ((spec_BatchOk.f k a1_0 l1_1).bind fun t197 => (spec_MapDo.j0 k l0 (!t197) a1_0 l1_1)) else (spec_MapDo.j0 k l0 true a1_0 l1_1))
theorem spec_MapDo.mono_l : ∀ k, (∀ y0 y1 y2 y3, LeO (spec_MapDo.j0 k y0 y1 y2 y3) (spec_MapDo.j0 (k + 1) y0 y1 y2 y3)) ∧ (∀ y0 y1 y2 y3, LeO (spec_MapDo.l0 k y0 y1 y2 y3) (spec_MapDo.l0 (k + 1) y0 y1 y2 y3))
  | 0 => ⟨fun _ _ _ _ r h => by simp [spec_MapDo.j0] at h, fun _ _ _ _ r h => by simp [spec_MapDo.l0] at h⟩
  | k + 1 => by
    obtain ⟨ih0, ih1⟩ := spec_MapDo.mono_l k
    refine ⟨?_, ?_⟩
    · intro y0 y1 y2 y3
      unfold spec_MapDo.j0
      repeat' first
      | (with_reducible exact ih0 _ _ _ _)
      | (with_reducible exact ih1 _ _ _ _)
      | (with_reducible exact spec_BatchOk.mono _ _ _)
      | (with_reducible exact spec_MapOk.mono _ _)
      | (with_reducible exact spec_l06Cut.mono _ _ _)
      | (with_reducible exact spec_l06Put.mono _ _ _ _)
      | (with_reducible exact LeO.refl _)
      | (with_reducible exact LeO.none _)
      | (with_reducible refine LeO.ite ?_ ?_)
      | (with_reducible refine LeO.bind ?_ (fun _ => ?_))
      | exact ih0 _ _ _ _
      | exact ih1 _ _ _ _
      | exact spec_BatchOk.mono _ _ _
      | exact spec_MapOk.mono _ _
      | exact spec_l06Cut.mono _ _ _
      | exact spec_l06Put.mono _ _ _ _
      | exact LeO.none _
      | refine LeO.ite ?_ ?_
      | refine LeO.bind ?_ (fun _ => ?_)
    · intro y0 y1 y2 y3
      unfold spec_MapDo.l0
      repeat' first
      | (with_reducible exact ih0 _ _ _ _)
      | (with_reducible exact ih1 _ _ _ _)
      | (with_reducible exact spec_BatchOk.mono _ _ _)
      | (with_reducible exact spec_MapOk.mono _ _)
      | (with_reducible exact spec_l06Cut.mono _ _ _)
      | (with_reducible exact spec_l06Put.mono _ _ _ _)
      | (with_reducible exact LeO.refl _)
      | (with_reducible exact LeO.none _)
      | (with_reducible refine LeO.ite ?_ ?_)
      | (with_reducible refine LeO.bind ?_ (fun _ => ?_))
      | exact ih0 _ _ _ _
      | exact ih1 _ _ _ _
      | exact spec_BatchOk.mono _ _ _
      | exact spec_MapOk.mono _ _
      | exact spec_l06Cut.mono _ _ _
      | exact spec_l06Put.mono _ _ _ _
      | exact LeO.none _
      | refine LeO.ite ?_ ?_
      | refine LeO.bind ?_ (fun _ => ?_)
theorem spec_MapDo.mono : ∀ a0 a1 a2 k, LeO (spec_MapDo.f k a0 a1 a2) (spec_MapDo.f (k + 1) a0 a1 a2) := by
  intro a0 a1 a2 k
  obtain ⟨ih0, ih1⟩ := spec_MapDo.mono_l k
  unfold spec_MapDo.f
  repeat' first
      | (with_reducible exact ih0 _ _ _ _)
      | (with_reducible exact ih1 _ _ _ _)
      | (with_reducible exact spec_BatchOk.mono _ _ _)
      | (with_reducible exact spec_MapOk.mono _ _)
      | (with_reducible exact spec_l06Cut.mono _ _ _)
      | (with_reducible exact spec_l06Put.mono _ _ _ _)
      | (with_reducible exact LeO.refl _)
      | (with_reducible exact LeO.none _)
      | (with_reducible refine LeO.ite ?_ ?_)
      | (with_reducible refine LeO.bind ?_ (fun _ => ?_))
      | exact ih0 _ _ _ _
      | exact ih1 _ _ _ _
      | exact spec_BatchOk.mono _ _ _
      | exact spec_MapOk.mono _ _
      | exact spec_l06Cut.mono _ _ _
      | exact spec_l06Put.mono _ _ _ _
      | exact LeO.none _
      | refine LeO.ite ?_ ?_
      | refine LeO.bind ?_ (fun _ => ?_)
def spec_MapDo.T9 : Bool × List (List Nat × List Nat) := (true, [([], []), ([], []), ([1], [1]), ([], []), ([2, 3], [2, 3]), ([4], [4]), ([5], [5]), ([], []), ([7], [7]), ([], []), ([8, 9], [8, 9]), ([10], [10]), ([11], [11]), ([0, 6, 12], [0, 6, 12]), ([13, 13, 0, 1, 2, 3, 4, 5, 6, 7, 8, 9, 10, 11, 12, 13], [0, 13])])
def spec_MapDo.B9 : List Nat := [0, 0, 2, 0, 14, 30, 62, 0, 128, 0, 896, 1920, 3968, 8191, 16383]
theorem spec_MapDo.tab9 : rtab .any (opsOf Try.f43 9) = spec_MapDo.T9 := by kernel_rfl
theorem spec_MapDo.bits9 : waitsOk spec_MapDo.T9.2 spec_MapDo.B9 = true := by kernel_rfl
set_option maxHeartbeats 8000000 in
set_option maxRecDepth 100000 in
theorem spec_MapDo.calls (k : Nat) (A0 : Option Addr) (c0 : Nat) (l0 : List (S59)) (a1_0 : Int) (A1_1 : Option Addr) (c1_1 : Nat) (l1_1 : List (S109)) (r1 : List (S59)) (r2 : Bool) (w : World) (hr0 : Kd.C k59 w A0 l0.length l0) (hc0 : l0.length ≤ c0) (hr1_1 : Kd.C k109 w A1_1 l1_1.length l1_1) (hc1_1 : l1_1.length ≤ c1_1) (h : spec_MapDo.f k l0 a1_0 l1_1 = some (r1, r2)) :
    Calls Try.prog 43 #[.slice A0 l0.length c0, .agg #[.int .i64 a1_0, .slice A1_1 l1_1.length c1_1]] w fun e w' => ∃ v0_ : Value, e = .returned (.tuple #[v0_, .bool r2]) ∧ Kd.R k59 59 w' w.heap.size (fun _ => True) v0_ r1 ∧ Below w.heap.size w w' := by
  have hu52 := Try.underlying52
  have HR0 := Aside0.mk hr0
  have HC0 := Aside0.mk hc0
  clear hr0 hc0
  have HR1_1 := Aside0.mk hr1_1
  have HC1_1 := Aside0.mk hc1_1
  clear hr1_1 hc1_1
  have HB := Aside0.mk (Below.refl w.heap.size w)
  have H : ((spec_MapOk.f k l0).bind fun t196 => (if t196 = true then ((spec_BatchOk.f k a1_0 l1_1).bind fun t197 => (spec_MapDo.j0 k l0 (!t197) a1_0 l1_1)) else (spec_MapDo.j0 k l0 true a1_0 l1_1))) = some (r1, r2) := h
  clear h
  have HC3 := Aside0.mk H
  clear H
  go_enter Try.func43, Try.ntmps43
  go_upto_region 1 with (first | ((with_reducible refine gate_dst (N := 3) rfl ?_); refine boxE (N := 3) (cs := #[.int .i64 a1_0, .slice A1_1 l1_1.length c1_1]) (t := 52) (h := ?_); intro gb195 hg w4 hbox hb; have BK195 := Aside0.mk (hbox); have GW195 := Aside0.mk ((t3_ : w.heap.size ≤ gb195)); have GE195 := Aside0.mk ((t3_ : w.heap.size ≤ gb195)); replace HB := Aside0.mk (below_step t0_ hb); clear hb hbox hg))
  (try simp only [Act.put, List.setIfInBounds_toArray, List.set_cons_zero, List.set_cons_succ])
  go_cut [15] (fun v15 wc => ∃ (kq : Nat) (x15_2 : Bool), v15 = .bool x15_2 ∧ Aside0 (spec_MapDo.j0 kq l0 x15_2 a1_0 l1_1 = some (r1, r2)) ∧ Aside0 (kq ≤ k) ∧ Aside0 (wc.heap[gb195]? = some (.cells #[.int .i64 a1_0, (.slice A1_1 l1_1.length c1_1)] 52 (0, 0))) ∧ Aside0 (Below w.heap.size w wc))
  case first =>
    have H := HC3.out
    clear HC3
    replace H := Option.bind_eq_some_iff.mp H
    obtain ⟨t196, A50, H⟩ := H
    replace H : (if t196 = true then ((spec_BatchOk.f k a1_0 l1_1).bind fun t197 => (spec_MapDo.j0 k l0 (!t197) a1_0 l1_1)) else (spec_MapDo.j0 k l0 true a1_0 l1_1)) = some (r1, r2) := H
    have A5 := Aside0.mk A50
    clear A50
    by_cases c6 : t196 = true
    · subst c6
      have H1 : ((spec_BatchOk.f k a1_0 l1_1).bind fun t197 => (spec_MapDo.j0 k l0 (!t197) a1_0 l1_1)) = some (r1, r2) := by rw [if_pos rfl] at H; exact H
      clear H
      have H := H1
      clear H1
      replace H := Option.bind_eq_some_iff.mp H
      obtain ⟨t197, A70, H⟩ := H
      replace H : (spec_MapDo.j0 k l0 (!t197) a1_0 l1_1) = some (r1, r2) := H
      have A7 := Aside0.mk A70
      clear A70
      have H' := Aside0.mk H
      clear H
      go_wp2_with (first | ((with_reducible refine gate_callee (f := 93) rfl ?_); refine goesL_ (some 9) rfl rfl Try.func93 (by kernel_rfl) rfl #[.slice A0 l0.length c0] rfl t7_ ?_; (with_reducible refine (spec_MapOk.calls k _ _ l0 true _ ?side1 ?side2 A5.out).mono ?_); (case side1 => exact cB HR0 HB); (case side2 => exact HC0.out); rintro e w' ⟨rfl, ⟨nd, rfl⟩⟩; refine ⟨_, rfl, ?_⟩; have hcz8_0 := bc0 BK195; have hcz8_1 := bc1 BK195; have hfz8_0 := bf BK195 0; have hfz8_1 := bf BK195 1) | (go_at_call 94; (with_reducible refine (spec_BatchOk.calls k a1_0 _ _ l1_1 t197 _ ?side1 ?side2 A7.out).mono ?_); (case side1 => repeat (first | exact (Kd.C_below HR1_1.out t9_) | (with_reducible refine Kd.C_alloc ?_ _) | (with_reducible refine Kd.C_drewN ?_ _) | (with_reducible refine Kd.C_drew ?_))); (case side2 => exact HC1_1.out); rintro e w9 ⟨rfl, hb⟩; replace BK195 := bkN BK195 hb; replace HB := Aside0.mk (below_step t9_ hb); (try clear hb); (try clear hb2); (try clear hk); (try clear hi)))
      go_meet
      case rel => exact ⟨_, (!t197), t10_, H', ⟨by first | omega | exact Nat.le_refl _⟩, ⟨by (with_reducible repeat (first | refine blk_drewN ?_ _ | refine blk_drew ?_ | refine blk_alloc ?_ _)); exact BK195.out⟩, ⟨t9_⟩⟩
    · replace c6 := Bool.eq_false_iff.mpr c6
      subst c6
      have H1 : (spec_MapDo.j0 k l0 true a1_0 l1_1) = some (r1, r2) := by rw [if_neg (show ¬ (false = true) by decide)] at H; exact H
      clear H
      have H := H1
      clear H1
      have H' := Aside0.mk H
      clear H
      go_wp2_with (first | ((with_reducible refine gate_callee (f := 93) rfl ?_); refine goesL_ (some 9) rfl rfl Try.func93 (by kernel_rfl) rfl #[.slice A0 l0.length c0] rfl t7_ ?_; (with_reducible refine (spec_MapOk.calls k _ _ l0 false _ ?side1 ?side2 A5.out).mono ?_); (case side1 => exact cB HR0 HB); (case side2 => exact HC0.out); rintro e w' ⟨rfl, ⟨nd, rfl⟩⟩; refine ⟨_, rfl, ?_⟩))
      go_meet
      case rel => exact ⟨_, (true), t10_, H', ⟨by first | omega | exact Nat.le_refl _⟩, ⟨by (with_reducible repeat (first | refine blk_drewN ?_ _ | refine blk_drew ?_ | refine blk_alloc ?_ _)); exact BK195.out⟩, ⟨t9_⟩⟩
  case rest =>
    clear HC3
    try clear c1
    try clear p2
    try clear c4
    try clear c6
    try clear c9
    try clear hcz8_0
    try clear hcz8_1
    try clear hfz8_0
    try clear hfz8_1
    obtain ⟨kq, x15_2, rfl, HA, HJ2, BK195, HB⟩ := hcut
    cases kq with
    | zero => exact absurd HA.out (by simp [spec_MapDo.j0])
    | succ kj2 =>
      have H := HA.out
      clear HA
      simp only [spec_MapDo.j0] at H
      by_cases c10 : x15_2 = true
      · subst c10
        have H1 : (some ((([] : List (S59))), false)) = some (r1, r2) := by rw [if_pos rfl] at H; exact H
        clear H
        have H := H1
        clear H1
        obtain ⟨y198, hy198⟩ : ∃ y_ : List (S59), y_ = (([] : List (S59))) := ⟨_, rfl⟩
        replace H : (some (y198, false)) = some (r1, r2) := by first | (rw [hy198]; with_reducible exact H) | (have H2_ := (Option.bind_some _ _).symm.trans H; rw [hy198]; with_reducible exact H2_) | (have H2_ := (Option.bind_some _ _).symm.trans H; with_reducible exact H2_) | with_reducible exact H | (rw [hy198]; exact H) | exact H
        have Ny198 := Aside0.mk hy198
        clear hy198
        simp only [Option.some.injEq, Prod.mk.injEq] at H
        obtain ⟨rfl, rfl⟩ := H
        go_wp2_with (first | ((with_reducible refine gate_dst (N := 16) rfl ?_); refine Kd.R_lit k59 _ 59 ?hg (N := 16) ?hd (xs := ([] : List (S59))) (inner := []) (ok := fun _ => True) (okp := fun _ => True) ?hr ?hp (fun _ hk => hk) trivial (Below.refl _ _) (Nat.le_refl _) (by simp) ?_; (case hd => rfl); (case hg => rfl); (case hr => first | (go_simp; done) | (go_simp; rfl)); (case hp => exact (Reps.none _ _)); intro v199 w11 ho12 hb hg_ hnew_; clear hg_ hnew_; (first | rw [← Ny198.out] at ho12 | (simp only [Int.reduceToNat] at ho12; rw [← Ny198.out] at ho12)); have HO200 := Aside0.mk (Kd.R_lower ho12 (below_size t9_)); replace BK195 := bkN BK195 hb; replace HB := Aside0.mk (below_step t9_ hb); clear hb ho12))
        go_ret2
        exact ⟨_, by first | rfl | (simp [errW_none, errW_some] <;> rfl) | (simp [*, errW_none, errW_some] <;> rfl), by (with_reducible repeat (first | apply Kd.R_alloc | apply Kd.R_drewN | apply Kd.R_drew)); exact HO200.out, t9_⟩
      · replace c10 := Bool.eq_false_iff.mpr c10
        subst c10
        have H1 : ((some (([] : List (S59)) : List (S59))).bind fun y201 => (if y201.length + l0.length < 4398046511104 then (spec_MapDo.l0 kj2 (y201 ++ l0) 0 a1_0 l1_1) else (none))) = some (r1, r2) := by rw [if_neg (show ¬ (false = true) by decide)] at H; exact H
        clear H
        have H := H1
        clear H1
        obtain ⟨y201, hy201⟩ : ∃ y_ : List (S59), y_ = (([] : List (S59))) := ⟨_, rfl⟩
        replace H : (if y201.length + l0.length < 4398046511104 then (spec_MapDo.l0 kj2 (y201 ++ l0) 0 a1_0 l1_1) else (none)) = some (r1, r2) := by first | (rw [hy201]; with_reducible exact H) | (have H2_ := (Option.bind_some _ _).symm.trans H; rw [hy201]; with_reducible exact H2_) | (have H2_ := (Option.bind_some _ _).symm.trans H; with_reducible exact H2_) | with_reducible exact H | (rw [hy201]; exact H) | exact H
        have Ny201 := Aside0.mk hy201
        clear hy201
        by_cases c13 : y201.length + l0.length < 4398046511104
        · rw [if_pos c13] at H
          have LMc13 := Aside0.mk c13
          clear c13
          obtain ⟨y204, hy204⟩ : ∃ y_ : List (S59), y_ = (y201 ++ l0) := ⟨_, rfl⟩
          replace H : (spec_MapDo.l0 kj2 y204 0 a1_0 l1_1) = some (r1, r2) := by first | (rw [hy204]; with_reducible exact H) | (have H2_ := (Option.bind_some _ _).symm.trans H; rw [hy204]; with_reducible exact H2_) | (have H2_ := (Option.bind_some _ _).symm.trans H; with_reducible exact H2_) | with_reducible exact H | (rw [hy204]; exact H) | exact H
          have Ny204 := Aside0.mk hy204
          clear hy204
          have H' := Aside0.mk H
          clear H
          go_wp2_with (first | ((with_reducible refine gate_dst (N := 17) rfl ?_); refine Kd.R_lit k59 _ 59 ?hg (N := 17) ?hd (xs := ([] : List (S59))) (inner := []) (ok := fun _ => True) (okp := fun _ => True) ?hr ?hp (fun _ hk => hk) trivial (Below.refl _ _) (Nat.le_refl _) (by simp) ?_; (case hd => rfl); (case hg => rfl); (case hr => first | (go_simp; done) | (go_simp; rfl)); (case hp => exact (Reps.none _ _)); intro v202 w14 ho15 hb hg_ hnew_; clear hg_ hnew_; (first | rw [← Ny201.out] at ho15 | (simp only [Int.reduceToNat] at ho15; rw [← Ny201.out] at ho15)); have HO203 := Aside0.mk (Kd.R_lower ho15 (below_size t9_)); replace BK195 := bkN BK195 hb; replace HB := Aside0.mk (below_step t9_ hb); clear hb ho15) | ((with_reducible refine gate_builtin (b := .append) (xs := #[.tmp 17, .tmp 18]) rfl ?_); at_builtin; refine Kd.R_append_rows k59 (w0 := w) w.heap.size rfl (.tmp 17) (.tmp 18) 43 59 (.agg #[(.string ⟨#[]⟩), (.string ⟨#[]⟩)]) 32 rfl Try.underlying43 info59 rfl (by decide) (by omega) v202 y201 l0 _ _ _ (fun _ => True) (fun _ => False) rfl rfl ?aO ?aR (fun _ _ h => h) (fun _ h => h.elim) ?aF ?aB ?aS ?aL ?_; (case aR => exact cB HR0 HB); (case aB => exact t9_); (case aF => exact (fun _ _ => trivial)); (case aO => exact (by (with_reducible repeat (first | apply Kd.R_alloc | apply Kd.R_drewN | apply Kd.R_drew)); exact HO203.out)); (case aS => exact (below_size t9_)); (case aL => have := LMc13.out; omega); intro v205 w16 ho hb hg hat; rw [← Ny204.out] at ho; have n0_ := Aside0.mk (blk_grown (g := gb195) (o := .cells #[.int .i64 a1_0, .slice A1_1 l1_1.length c1_1] 52 (0, 0)) (by (with_reducible repeat (first | refine blk_drewN ?_ _ | refine blk_drew ?_ | refine blk_alloc ?_ _)); exact BK195.out) hg (Kd.R_ne HO203.out BK195.out (by decide))); have n1_ := Aside0.mk (hb); have n2_ := Aside0.mk (ho); clear BK195; clear HB; clear HO203; have BK195 := n0_; have HB := n1_; have HO206 := n2_; clear n0_ n1_ n2_; clear ho hb hg hat))
          go_loopg [6, 7] kj2 (fun kq v6 v7 w' => ∃ (x6_2 : List (S59)) (x7_2 : Int), v7 = .int .i64 x7_2 ∧ Aside0 (spec_MapDo.l0 kq x6_2 x7_2 a1_0 l1_1 = some (r1, r2)) ∧ Aside0 (kq ≤ kj2) ∧ Aside0 (Kd.R k59 59 w' w.heap.size (fun _ => True) v6 x6_2) ∧ Aside0 (w'.heap[gb195]? = some (.cells #[.int .i64 a1_0, (.slice A1_1 l1_1.length c1_1)] 52 (0, 0))) ∧ Aside0 (Below w.heap.size w w'))
          case atStart => exact ⟨(y204), (0), t10_, H', ⟨Nat.le_refl _⟩, ⟨by (with_reducible repeat (first | apply Kd.R_alloc | apply Kd.R_drewN | apply Kd.R_drew)); exact HO206.out⟩, ⟨by (with_reducible repeat (first | refine blk_drewN ?_ _ | refine blk_drew ?_ | refine blk_alloc ?_ _)); exact BK195.out⟩, ⟨t9_⟩⟩
          case round =>
            clear H'
            try clear c1
            try clear p2
            try clear c4
            try clear c6
            try clear c9
            try clear c10
            try clear c13
            try clear hcz8_0
            try clear hcz8_1
            try clear hfz8_0
            try clear hfz8_1
            try clear p2
            obtain ⟨x6_2, x7_2, rfl, HA, HK2, HO_6, BK195, HB⟩ := hrel
            cases gk with
            | zero => exact absurd HA.out (by simp [spec_MapDo.l0])
            | succ k2 =>
              have H := HA.out
              clear HA
              simp only [spec_MapDo.l0] at H
              by_cases c17 : x7_2 < (l1_1.length : Int)
              · rw [if_pos c17] at H
                have c17b0 : decide (x7_2 < (l1_1.length : Int)) = true := decide_eq_true c17
                clear c17
                by_cases c18 : 0 ≤ x7_2
                · rw [if_pos c18] at H
                  have c18b0 : decide (0 ≤ x7_2) = true := decide_eq_true c18
                  clear c18
                  obtain ⟨bq19, hbq19⟩ : ∃ b_ : Bool, b_ = ((rd_T109 l1_1 x7_2).f2) := ⟨_, rfl⟩
                  replace H : (if bq19 = true then ((spec_l06Cut.f k2 x6_2 ((rd_T109 l1_1 x7_2).f0)).bind fun t213 => (spec_MapDo.l0 k2 t213 (wrap64 (x7_2 + 1)) a1_0 l1_1)) else ((spec_l06Put.f k2 x6_2 ((rd_T109 l1_1 x7_2).f0) ((rd_T109 l1_1 x7_2).f1)).bind fun t218 => (spec_MapDo.l0 k2 t218 (wrap64 (x7_2 + 1)) a1_0 l1_1))) = some (r1, r2) := by rw [← hbq19] at H; exact H
                  have Nbq19 := Aside0.mk hbq19
                  clear hbq19
                  by_cases c20 : bq19 = true
                  · subst c20
                    have H1 : ((spec_l06Cut.f k2 x6_2 ((rd_T109 l1_1 x7_2).f0)).bind fun t213 => (spec_MapDo.l0 k2 t213 (wrap64 (x7_2 + 1)) a1_0 l1_1)) = some (r1, r2) := by rw [if_pos rfl] at H; exact H
                    clear H
                    have H := H1
                    clear H1
                    replace H := Option.bind_eq_some_iff.mp H
                    obtain ⟨t213, A210, H⟩ := H
                    replace H : (spec_MapDo.l0 k2 t213 (wrap64 (x7_2 + 1)) a1_0 l1_1) = some (r1, r2) := H
                    have A21 := Aside0.mk A210
                    clear A210
                    have H' := Aside0.mk H
                    clear H
                    have hcz22_0 := bc0 BK195
                    have hcz22_1 := bc1 BK195
                    have hfz22_0 := bf BK195 0
                    have hfz22_1 := bf BK195 1
                    have p211 : 0 ≤ (x7_2 : Int) := of_decide_eq_true t4_
                    have q211 : x7_2 < (l1_1.length : Int) := of_decide_eq_true t4_
                    obtain ⟨ad211, e211, hx211_0, hx211_1, hx211_2⟩ := at_T109 HR1_1.out x7_2 p211 q211
                    (try rw [← Nbq19.out] at hx211_2)
                    (try rw [← Nbq19.out] at hw211_2)
                    cases e211
                    replace hx211_0 := (HB.out.cell (World.block_lt_of_cell? w _ hx211_0)).trans hx211_0
                    replace hx211_1 := (HB.out.cell (World.block_lt_of_cell? w _ hx211_1)).trans hx211_1
                    replace hx211_2 := (HB.out.cell (World.block_lt_of_cell? w _ hx211_2)).trans hx211_2
                    replace p211 := eq_true p211
                    replace q211 := eq_true q211
                    have p212 : 0 ≤ (x7_2 : Int) := of_decide_eq_true t4_
                    have q212 : x7_2 < (l1_1.length : Int) := of_decide_eq_true t4_
                    obtain ⟨ad212, e212, hx212_0, hx212_1, hx212_2⟩ := at_T109 HR1_1.out x7_2 p212 q212
                    (try rw [← Nbq19.out] at hx212_2)
                    (try rw [← Nbq19.out] at hw212_2)
                    obtain rfl : ad211 = ad212 := (by injection e212)
                    replace hx212_0 := (HB.out.cell (World.block_lt_of_cell? w _ hx212_0)).trans hx212_0
                    replace hx212_1 := (HB.out.cell (World.block_lt_of_cell? w _ hx212_1)).trans hx212_1
                    replace hx212_2 := (HB.out.cell (World.block_lt_of_cell? w _ hx212_2)).trans hx212_2
                    replace p212 := eq_true p212
                    replace q212 := eq_true q212
                    obtain ⟨Ao23, co23, eo23⟩ := Kd.R_slice HO_6.out
                    subst eo23
                    go_wp2_with (first | ((with_reducible refine gate_callee (f := 95) rfl ?_); refine goesL_ (some 40) rfl rfl Try.func95 (by kernel_rfl) rfl #[.slice Ao23 x6_2.length co23, .string ((rd_T109 l1_1 x7_2).f0)] rfl t7_ ?_; (with_reducible refine (spec_l06Cut.calls k2 _ _ x6_2 ((rd_T109 l1_1 x7_2).f0) t213 _ ?side1 ?side2 A21.out).mono ?_); (case side1 => repeat (first | exact (Kd.R_reads' HO_6.out).2.2 | (with_reducible refine Kd.C_alloc ?_ _) | (with_reducible refine Kd.C_drewN ?_ _) | (with_reducible refine Kd.C_drew ?_))); (case side2 => exact (Kd.R_reads' HO_6.out).2.1); rintro e w24 ⟨v214, rfl, ho0, hb⟩; refine ⟨_, rfl, ?_⟩; have HO215 := Aside0.mk (Kd.R_lower (Kd.R_new' ho0 (Kd.R_lt t13_)) (below_size t9_)); replace HO_6 := Aside0.mk (Kd.R_elder' t13_ (Kd.R_base ho0) hb); replace BK195 := bkN BK195 hb; replace HB := Aside0.mk (below_step t9_ hb); (try clear hb); (try clear hb2); (try clear hk); (try clear hi); (try clear ho0)))
                    go_roundg k2
                    case measure => have := HJ2.out; have := HK2.out; omega
                    case rel => exact ⟨(t213), (wrap64 (x7_2 + 1)), t10_, H', ⟨by have := HJ2.out; have := HK2.out; omega⟩, ⟨by (with_reducible repeat (first | apply Kd.R_alloc | apply Kd.R_drewN | apply Kd.R_drew)); exact Kd.R_mono HO215.out (fun _ hk => trivial)⟩, ⟨by (with_reducible repeat (first | refine blk_drewN ?_ _ | refine blk_drew ?_ | refine blk_alloc ?_ _)); exact BK195.out⟩, ⟨t9_⟩⟩
                  · replace c20 := Bool.eq_false_iff.mpr c20
                    subst c20
                    have H1 : ((spec_l06Put.f k2 x6_2 ((rd_T109 l1_1 x7_2).f0) ((rd_T109 l1_1 x7_2).f1)).bind fun t218 => (spec_MapDo.l0 k2 t218 (wrap64 (x7_2 + 1)) a1_0 l1_1)) = some (r1, r2) := by rw [if_neg (show ¬ (false = true) by decide)] at H; exact H
                    clear H
                    have H := H1
                    clear H1
                    replace H := Option.bind_eq_some_iff.mp H
                    obtain ⟨t218, A250, H⟩ := H
                    replace H : (spec_MapDo.l0 k2 t218 (wrap64 (x7_2 + 1)) a1_0 l1_1) = some (r1, r2) := H
                    have A25 := Aside0.mk A250
                    clear A250
                    have H' := Aside0.mk H
                    clear H
                    have hcz26_0 := bc0 BK195
                    have hcz26_1 := bc1 BK195
                    have hfz26_0 := bf BK195 0
                    have hfz26_1 := bf BK195 1
                    have p211 : 0 ≤ (x7_2 : Int) := of_decide_eq_true t4_
                    have q211 : x7_2 < (l1_1.length : Int) := of_decide_eq_true t4_
                    obtain ⟨ad211, e211, hx211_0, hx211_1, hx211_2⟩ := at_T109 HR1_1.out x7_2 p211 q211
                    (try rw [← Nbq19.out] at hx211_2)
                    (try rw [← Nbq19.out] at hw211_2)
                    cases e211
                    replace hx211_0 := (HB.out.cell (World.block_lt_of_cell? w _ hx211_0)).trans hx211_0
                    replace hx211_1 := (HB.out.cell (World.block_lt_of_cell? w _ hx211_1)).trans hx211_1
                    replace hx211_2 := (HB.out.cell (World.block_lt_of_cell? w _ hx211_2)).trans hx211_2
                    replace p211 := eq_true p211
                    replace q211 := eq_true q211
                    try go_wp2
                    replace HO_6 := Aside0.mk (Kd.R_drew HO_6.out)
                    replace BK195 := Aside0.mk (blk_drew BK195.out)
                    replace HB := Aside0.mk (below_drew1 HB.out)
                    have p216 : 0 ≤ (x7_2 : Int) := of_decide_eq_true t4_
                    have q216 : x7_2 < (l1_1.length : Int) := of_decide_eq_true t4_
                    obtain ⟨ad216, e216, hx216_0, hx216_1, hx216_2⟩ := at_T109 HR1_1.out x7_2 p216 q216
                    have hw216_2 := hx216_2
                    have hw216_1 := hx216_1
                    have hw216_0 := hx216_0
                    (try rw [← Nbq19.out] at hx216_2)
                    (try rw [← Nbq19.out] at hw216_2)
                    obtain rfl : ad211 = ad216 := (by injection e216)
                    replace hx216_0 := (HB.out.cell (World.block_lt_of_cell? w _ hx216_0)).trans hx216_0
                    replace hx216_1 := (HB.out.cell (World.block_lt_of_cell? w _ hx216_1)).trans hx216_1
                    replace hx216_2 := (HB.out.cell (World.block_lt_of_cell? w _ hx216_2)).trans hx216_2
                    replace p216 := eq_true p216
                    replace q216 := eq_true q216
                    have p217 : 0 ≤ (x7_2 : Int) := of_decide_eq_true t4_
                    have q217 : x7_2 < (l1_1.length : Int) := of_decide_eq_true t4_
                    obtain ⟨ad217, e217, hx217_0, hx217_1, hx217_2⟩ := at_T109 HR1_1.out x7_2 p217 q217
                    have hw217_2 := hx217_2
                    have hw217_1 := hx217_1
                    have hw217_0 := hx217_0
                    (try rw [← Nbq19.out] at hx217_2)
                    (try rw [← Nbq19.out] at hw217_2)
                    obtain rfl : ad211 = ad217 := (by injection e217)
                    replace hx217_0 := (HB.out.cell (World.block_lt_of_cell? w _ hx217_0)).trans hx217_0
                    replace hx217_1 := (HB.out.cell (World.block_lt_of_cell? w _ hx217_1)).trans hx217_1
                    replace hx217_2 := (HB.out.cell (World.block_lt_of_cell? w _ hx217_2)).trans hx217_2
                    replace p217 := eq_true p217
                    replace q217 := eq_true q217
                    obtain ⟨Ao28, co28, eo28⟩ := Kd.R_slice HO_6.out
                    (first | subst eo28 | (injection eo28 with f1_ f2_ f3_; have f4_ := f1_.symm; have f5_ := f3_.symm; clear f1_ f2_ f3_; subst f4_; subst f5_))
                    refine start_ (n := 15) (S := fun w' => w'.cell? ⟨gb195, 0, none⟩ = some (.int .i64 a1_0) ∧ w'.cell? ⟨gb195, 1, none⟩ = some (.slice (some ad211) l1_1.length c1_1) ∧ w'.cell? (ad211.add ((x7_2).toNat * 3)) = some (.string ((rd_T109 l1_1 x7_2).f0)) ∧ w'.cell? ⟨(ad211.add ((x7_2).toNat * 3)).block, (ad211.add ((x7_2).toNat * 3)).off + 1, none⟩ = some (.string ((rd_T109 l1_1 x7_2).f1)) ∧ w'.cell? ⟨(ad211.add ((x7_2).toNat * 3)).block, (ad211.add ((x7_2).toNat * 3)).off + 2, none⟩ = some (.bool (false)) ∧ w'.cell? (ad211.add ((x7_2).toNat * 3)) = some (.string ((rd_T109 l1_1 x7_2).f0)) ∧ w'.cell? ⟨(ad211.add ((x7_2).toNat * 3)).block, (ad211.add ((x7_2).toNat * 3)).off + 1, none⟩ = some (.string ((rd_T109 l1_1 x7_2).f1)) ∧ w'.cell? ⟨(ad211.add ((x7_2).toNat * 3)).block, (ad211.add ((x7_2).toNat * 3)).off + 2, none⟩ = some (.bool (false))) (ds := []) #[false, false, false, false, false, false, false, false, false, false, false, false, false, false, false] (by kernel_rfl) rfl rfl ⟨bc0 BK195, bc1 BK195, ((HB.out.cell (World.block_lt_of_cell? w _ hw216_0)).trans hw216_0), ((HB.out.cell (World.block_lt_of_cell? w _ hw216_1)).trans hw216_1), ((HB.out.cell (World.block_lt_of_cell? w _ hw216_2)).trans hw216_2), ((HB.out.cell (World.block_lt_of_cell? w _ hw217_0)).trans hw217_0), ((HB.out.cell (World.block_lt_of_cell? w _ hw217_1)).trans hw217_1), ((HB.out.cell (World.block_lt_of_cell? w _ hw217_2)).trans hw217_2)⟩ (fun hHeld => ?_); refine with_tabW spec_MapDo.tab9 spec_MapDo.bits9 (fun HT_ HW_ => ?_)
                    generalize wr.drew = w27 at HO_6 BK195 HB hx216_0 hx216_1 hx216_2 hx217_0 hx217_1 hx217_2 hHeld ⊢
                    refine pure_ (i := 0) (N := some 41) (v := ?_) (a' := ?_) #[true, false, false, false, false, false, false, false, false, false, false, false, false, false, false] rfl rfl (any_of HT_.out (by kernel_rfl)) (fun _ _ _ h => h) (Or.inl ⟨by rfl, ?_⟩) ?_ ?_
                    rotate_left
                    · intro w'
                      go_simp
                      with_reducible rfl
                    rotate_left
                    · simp only [Act.put, List.setIfInBounds_toArray, List.set_cons_zero, List.set_cons_succ, i64_w, i32_w]
                      rfl
                    refine pure_ (i := 1) (N := some 42) (v := ?_) (a' := ?_) #[true, true, false, false, false, false, false, false, false, false, false, false, false, false, false] rfl rfl (any_of HT_.out (by kernel_rfl)) (fun _ _ _ h => h) (Or.inl ⟨by rfl, ?_⟩) ?_ ?_
                    rotate_left
                    · intro w'
                      go_simp
                      with_reducible rfl
                    rotate_left
                    · simp only [Act.put, List.setIfInBounds_toArray, List.set_cons_zero, List.set_cons_succ, i64_w, i32_w]
                      rfl
                    refine pure_ (i := 3) (N := some 44) (v := ?_) (a' := ?_) #[true, true, false, true, false, false, false, false, false, false, false, false, false, false, false] rfl rfl (any_of HT_.out (by kernel_rfl)) (fun _ _ _ h => h) (Or.inl ⟨by rfl, ?_⟩) ?_ ?_
                    rotate_left
                    · intro w'
                      go_simp
                      with_reducible rfl
                    rotate_left
                    · simp only [Act.put, List.setIfInBounds_toArray, List.set_cons_zero, List.set_cons_succ, i64_w, i32_w]
                      rfl
                    refine pure_ (i := 7) (N := some 48) (v := ?_) (a' := ?_) #[true, true, false, true, false, false, false, true, false, false, false, false, false, false, false] rfl rfl (any_of HT_.out (by kernel_rfl)) (fun _ _ _ h => h) (Or.inl ⟨by rfl, ?_⟩) ?_ ?_
                    rotate_left
                    · intro w'
                      go_simp
                      with_reducible rfl
                    rotate_left
                    · simp only [Act.put, List.setIfInBounds_toArray, List.set_cons_zero, List.set_cons_succ, i64_w, i32_w]
                      rfl
                    refine pure_ (i := 9) (N := some 50) (v := ?_) (a' := ?_) #[true, true, false, true, false, false, false, true, false, true, false, false, false, false, false] rfl rfl (any_of HT_.out (by kernel_rfl)) (fun _ _ _ h => h) (Or.inl ⟨by rfl, ?_⟩) ?_ ?_
                    rotate_left
                    · intro w'
                      go_simp
                      with_reducible rfl
                    rotate_left
                    · simp only [Act.put, List.setIfInBounds_toArray, List.set_cons_zero, List.set_cons_succ, i64_w, i32_w]
                      rfl
                    refine take_ (i := 2) (N := some 43) (v := ?_) (a' := ?_) #[true, true, true, true, false, false, false, true, false, true, false, false, false, false, false] rfl rfl (take_ofW HT_.out HW_.out (by kernel_rfl)) (fun _ _ _ h => h) (Or.inl ⟨by rfl, ?_⟩) hHeld ?_ ?_
                    rotate_left
                    · rintro w' ⟨s0, s1, s2, s3, s4, s5, s6, s7⟩
                      go_simp
                      with_reducible rfl
                    rotate_left
                    · simp only [Act.put, List.setIfInBounds_toArray, List.set_cons_zero, List.set_cons_succ, i64_w, i32_w]
                      rfl
                    refine pure_ (i := 4) (N := some 45) (v := ?_) (a' := ?_) #[true, true, true, true, true, false, false, true, false, true, false, false, false, false, false] rfl rfl (any_of HT_.out (by kernel_rfl)) (fun _ _ _ h => h) (Or.inl ⟨by rfl, ?_⟩) ?_ ?_
                    rotate_left
                    · intro w'
                      go_simp
                      with_reducible rfl
                    rotate_left
                    · simp only [Act.put, List.setIfInBounds_toArray, List.set_cons_zero, List.set_cons_succ, i64_w, i32_w]
                      rfl
                    refine pure_ (i := 5) (N := some 46) (v := ?_) (a' := ?_) #[true, true, true, true, true, true, false, true, false, true, false, false, false, false, false] rfl rfl (any_of HT_.out (by kernel_rfl)) (fun _ _ _ h => h) (Or.inl ⟨by rfl, ?_⟩) ?_ ?_
                    rotate_left
                    · intro w'
                      go_simp
                      with_reducible rfl
                    rotate_left
                    · simp only [Act.put, List.setIfInBounds_toArray, List.set_cons_zero, List.set_cons_succ, i64_w, i32_w]
                      rfl
                    refine take_ (i := 6) (N := some 47) (v := ?_) (a' := ?_) #[true, true, true, true, true, true, true, true, false, true, false, false, false, false, false] rfl rfl (take_ofW HT_.out HW_.out (by kernel_rfl)) (fun _ _ _ h => h) (Or.inl ⟨by rfl, ?_⟩) hHeld ?_ ?_
                    rotate_left
                    · rintro w' ⟨s0, s1, s2, s3, s4, s5, s6, s7⟩
                      go_simp
                      with_reducible rfl
                    rotate_left
                    · simp only [Act.put, List.setIfInBounds_toArray, List.set_cons_zero, List.set_cons_succ, i64_w, i32_w]
                      rfl
                    refine take_ (i := 8) (N := some 49) (v := ?_) (a' := ?_) #[true, true, true, true, true, true, true, true, true, true, false, false, false, false, false] rfl rfl (take_ofW HT_.out HW_.out (by kernel_rfl)) (fun _ _ _ h => h) (Or.inl ⟨by rfl, ?_⟩) hHeld ?_ ?_
                    rotate_left
                    · rintro w' ⟨s0, s1, s2, s3, s4, s5, s6, s7⟩
                      go_simp
                      with_reducible rfl
                    rotate_left
                    · simp only [Act.put, List.setIfInBounds_toArray, List.set_cons_zero, List.set_cons_succ, i64_w, i32_w]
                      rfl
                    refine pure_ (i := 10) (N := some 51) (v := ?_) (a' := ?_) #[true, true, true, true, true, true, true, true, true, true, true, false, false, false, false] rfl rfl (any_of HT_.out (by kernel_rfl)) (fun _ _ _ h => h) (Or.inl ⟨by rfl, ?_⟩) ?_ ?_
                    rotate_left
                    · intro w'
                      go_simp
                      with_reducible rfl
                    rotate_left
                    · simp only [Act.put, List.setIfInBounds_toArray, List.set_cons_zero, List.set_cons_succ, i64_w, i32_w]
                      rfl
                    refine pure_ (i := 11) (N := some 52) (v := ?_) (a' := ?_) #[true, true, true, true, true, true, true, true, true, true, true, true, false, false, false] rfl rfl (any_of HT_.out (by kernel_rfl)) (fun _ _ _ h => h) (Or.inl ⟨by rfl, ?_⟩) ?_ ?_
                    rotate_left
                    · intro w'
                      go_simp
                      with_reducible rfl
                    rotate_left
                    · simp only [Act.put, List.setIfInBounds_toArray, List.set_cons_zero, List.set_cons_succ, i64_w, i32_w]
                      rfl
                    refine take_ (i := 12) (N := some 53) (v := ?_) (a' := ?_) #[true, true, true, true, true, true, true, true, true, true, true, true, true, false, false] rfl rfl (take_ofW HT_.out HW_.out (by kernel_rfl)) (fun _ _ _ h => h) (Or.inl ⟨by rfl, ?_⟩) hHeld ?_ ?_
                    rotate_left
                    · rintro w' ⟨s0, s1, s2, s3, s4, s5, s6, s7⟩
                      go_simp
                      with_reducible rfl
                    rotate_left
                    · simp only [Act.put, List.setIfInBounds_toArray, List.set_cons_zero, List.set_cons_succ, i64_w, i32_w]
                      rfl
                    refine one_ (i := 13) (N := some 54) #[true, true, true, true, true, true, true, true, true, true, true, true, true, true, false] rfl rfl (one_of HT_.out (by kernel_rfl)) (by decide) (fun K hK => ?_)
                    refine goes_ Try.func96 (by kernel_rfl) rfl #[.slice Ao28 x6_2.length co28, .string ((rd_T109 l1_1 x7_2).f0), .string ((rd_T109 l1_1 x7_2).f1)] (by rfl) rfl rfl t7_ ?_
                    with_reducible refine (spec_l06Put.calls k2 _ _ x6_2 ((rd_T109 l1_1 x7_2).f0) ((rd_T109 l1_1 x7_2).f1) t218 _ ?side1 ?side2 A25.out).mono ?_
                    (case side1 => repeat (first | exact (Kd.R_reads' HO_6.out).2.2 | (with_reducible refine Kd.C_alloc ?_ _) | (with_reducible refine Kd.C_drewN ?_ _) | (with_reducible refine Kd.C_drew ?_)))
                    (case side2 => exact (Kd.R_reads' HO_6.out).2.1)
                    rintro e w29 ⟨v219, rfl, ho0, hb⟩
                    refine ⟨_, rfl, ?_⟩
                    have HO220 := Aside0.mk (Kd.R_lower (Kd.R_new' ho0 (Kd.R_lt t13_)) (below_size t9_))
                    replace HO_6 := Aside0.mk (Kd.R_elder' t13_ (Kd.R_base ho0) hb)
                    replace BK195 := bkN BK195 hb
                    replace HB := Aside0.mk (below_step t9_ hb)
                    (try clear hb)
                    (try clear hb2)
                    (try clear hk)
                    (try clear hi)
                    (try clear ho0)
                    refine hK.out _ _ ⟨bc0 BK195, bc1 BK195, ((HB.out.cell (World.block_lt_of_cell? w _ hw216_0)).trans hw216_0), ((HB.out.cell (World.block_lt_of_cell? w _ hw216_1)).trans hw216_1), ((HB.out.cell (World.block_lt_of_cell? w _ hw216_2)).trans hw216_2), ((HB.out.cell (World.block_lt_of_cell? w _ hw217_0)).trans hw217_0), ((HB.out.cell (World.block_lt_of_cell? w _ hw217_1)).trans hw217_1), ((HB.out.cell (World.block_lt_of_cell? w _ hw217_2)).trans hw217_2)⟩ (fun hHeld => ?_)
                    clear hK K
                    refine norm_ (a' := ?_) ?_ ?_
                    rotate_left
                    · show Act.put _ (some 54) _ = _
                      simp only [Act.put, List.setIfInBounds_toArray, List.set_cons_zero, List.set_cons_succ, i64_w, i32_w]
                      rfl
                    refine pure_ (i := 14) (N := some 6) (v := ?_) (a' := ?_) #[true, true, true, true, true, true, true, true, true, true, true, true, true, true, true] rfl rfl (any_of HT_.out (by kernel_rfl)) (fun _ _ _ h => h) (Or.inl ⟨by rfl, ?_⟩) ?_ ?_
                    rotate_left
                    · intro w'
                      go_simp
                      with_reducible rfl
                    rotate_left
                    · simp only [Act.put, List.setIfInBounds_toArray, List.set_cons_zero, List.set_cons_succ, i64_w, i32_w]
                      rfl
                    refine done_ (done_of HT_.out (by kernel_rfl)) ?_
                    try go_wp2
                    go_roundg k2
                    case measure => have := HJ2.out; have := HK2.out; omega
                    case rel => exact ⟨(t218), (wrap64 (x7_2 + 1)), t10_, H', ⟨by have := HJ2.out; have := HK2.out; omega⟩, ⟨by (with_reducible repeat (first | apply Kd.R_alloc | apply Kd.R_drewN | apply Kd.R_drew)); exact Kd.R_mono HO220.out (fun _ hk => trivial)⟩, ⟨by (with_reducible repeat (first | refine blk_drewN ?_ _ | refine blk_drew ?_ | refine blk_alloc ?_ _)); exact BK195.out⟩, ⟨t9_⟩⟩
                · rw [if_neg c18] at H
                  exact absurd H (by simp)
              · rw [if_neg c17] at H
                have c17b0 : decide (x7_2 < (l1_1.length : Int)) = false := decide_eq_false c17
                clear c17
                replace H := Option.bind_eq_some_iff.mp H
                obtain ⟨t207, A300, H⟩ := H
                replace H : (if t207 = true then (some (x6_2, true)) else (some ((([] : List (S59))), false))) = some (r1, r2) := H
                have A30 := Aside0.mk A300
                clear A300
                by_cases c31 : t207 = true
                · subst c31
                  have H1 : (some (x6_2, true)) = some (r1, r2) := by rw [if_pos rfl] at H; exact H
                  clear H
                  have H := H1
                  clear H1
                  simp only [Option.some.injEq, Prod.mk.injEq] at H
                  obtain ⟨rfl, rfl⟩ := H
                  have hcz32_0 := bc0 BK195
                  have hcz32_1 := bc1 BK195
                  have hfz32_0 := bf BK195 0
                  have hfz32_1 := bf BK195 1
                  obtain ⟨Ao33, co33, eo33⟩ := Kd.R_slice HO_6.out
                  subst eo33
                  go_wp2_with (first | ((with_reducible refine gate_callee (f := 93) rfl ?_); refine goesL_ (some 56) rfl rfl Try.func93 (by kernel_rfl) rfl #[.slice Ao33 x6_2.length co33] rfl t7_ ?_; (with_reducible refine (spec_MapOk.calls k2 _ _ x6_2 true _ ?side1 ?side2 A30.out).mono ?_); (case side1 => repeat (first | exact (Kd.R_reads' HO_6.out).2.2 | (with_reducible refine Kd.C_alloc ?_ _) | (with_reducible refine Kd.C_drewN ?_ _) | (with_reducible refine Kd.C_drew ?_))); (case side2 => exact (Kd.R_reads' HO_6.out).2.1); rintro e w' ⟨rfl, ⟨nd, rfl⟩⟩; refine ⟨_, rfl, ?_⟩))
                  go_ret2
                  exact ⟨_, by first | rfl | (simp [errW_none, errW_some] <;> rfl) | (simp [*, errW_none, errW_some] <;> rfl), by (with_reducible repeat (first | apply Kd.R_alloc | apply Kd.R_drewN | apply Kd.R_drew)); exact HO_6.out, t9_⟩
                · replace c31 := Bool.eq_false_iff.mpr c31
                  subst c31
                  have H1 : (some ((([] : List (S59))), false)) = some (r1, r2) := by rw [if_neg (show ¬ (false = true) by decide)] at H; exact H
                  clear H
                  have H := H1
                  clear H1
                  obtain ⟨y208, hy208⟩ : ∃ y_ : List (S59), y_ = (([] : List (S59))) := ⟨_, rfl⟩
                  replace H : (some (y208, false)) = some (r1, r2) := by first | (rw [hy208]; with_reducible exact H) | (have H2_ := (Option.bind_some _ _).symm.trans H; rw [hy208]; with_reducible exact H2_) | (have H2_ := (Option.bind_some _ _).symm.trans H; with_reducible exact H2_) | with_reducible exact H | (rw [hy208]; exact H) | exact H
                  have Ny208 := Aside0.mk hy208
                  clear hy208
                  simp only [Option.some.injEq, Prod.mk.injEq] at H
                  obtain ⟨rfl, rfl⟩ := H
                  have hcz34_0 := bc0 BK195
                  have hcz34_1 := bc1 BK195
                  have hfz34_0 := bf BK195 0
                  have hfz34_1 := bf BK195 1
                  obtain ⟨Ao35, co35, eo35⟩ := Kd.R_slice HO_6.out
                  subst eo35
                  go_wp2_with (first | ((with_reducible refine gate_callee (f := 93) rfl ?_); refine goesL_ (some 56) rfl rfl Try.func93 (by kernel_rfl) rfl #[.slice Ao35 x6_2.length co35] rfl t7_ ?_; (with_reducible refine (spec_MapOk.calls k2 _ _ x6_2 false _ ?side1 ?side2 A30.out).mono ?_); (case side1 => repeat (first | exact (Kd.R_reads' HO_6.out).2.2 | (with_reducible refine Kd.C_alloc ?_ _) | (with_reducible refine Kd.C_drewN ?_ _) | (with_reducible refine Kd.C_drew ?_))); (case side2 => exact (Kd.R_reads' HO_6.out).2.1); rintro e w' ⟨rfl, ⟨nd, rfl⟩⟩; refine ⟨_, rfl, ?_⟩) | ((with_reducible refine gate_dst (N := 58) rfl ?_); refine Kd.R_lit k59 _ 59 ?hg (N := 58) ?hd (xs := ([] : List (S59))) (inner := []) (ok := fun _ => True) (okp := fun _ => True) ?hr ?hp (fun _ hk => hk) trivial (Below.refl _ _) (Nat.le_refl _) (by simp) ?_; (case hd => rfl); (case hg => rfl); (case hr => first | (go_simp; done) | (go_simp; rfl)); (case hp => exact (Reps.none _ _)); intro v209 w36 ho37 hb hg_ hnew_; clear hg_ hnew_; (first | rw [← Ny208.out] at ho37 | (simp only [Int.reduceToNat] at ho37; rw [← Ny208.out] at ho37)); have HO210 := Aside0.mk (Kd.R_lower (Kd.R_new' ho37 (Kd.R_lt t13_)) (below_size t9_)); replace HO_6 := Aside0.mk (Kd.R_elder' t13_ (Kd.R_base ho37) hb); replace BK195 := bkN BK195 hb; replace HB := Aside0.mk (below_step t9_ hb); clear hb ho37))
                  go_ret2
                  exact ⟨_, by first | rfl | (simp [errW_none, errW_some] <;> rfl) | (simp [*, errW_none, errW_some] <;> rfl), by (with_reducible repeat (first | apply Kd.R_alloc | apply Kd.R_drewN | apply Kd.R_drew)); exact Kd.R_mono HO210.out (fun _ hk => trivial), t9_⟩
        · rw [if_neg c13] at H
          exact absurd H (by simp)

/-! ### laws_toPair: function 97 -/
def laws_toPair.f (a0_0 : ByteArray) (a0_1 : ByteArray) : Option (ByteArray × ByteArray) := some (a0_0, a0_1)
set_option maxHeartbeats 8000000 in
set_option maxRecDepth 100000 in
theorem laws_toPair.calls (a0_0 : ByteArray) (a0_1 : ByteArray) (r1 : ByteArray) (r2 : ByteArray) (w : World) (h : laws_toPair.f a0_0 a0_1 = some (r1, r2)) :
    Calls Try.prog 97 #[.agg #[.string a0_0, .string a0_1]] w fun e w' => e = .returned (.agg #[.string r1, .string r2]) ∧ Below w.heap.size w w' := by
  have hu129 := Try.underlying129
  have hu59 := Try.underlying59
  have HB := Aside0.mk (Below.refl w.heap.size w)
  have H : (some (a0_0, a0_1)) = some (r1, r2) := h
  clear h
  simp only [Option.some.injEq, Prod.mk.injEq] at H
  obtain ⟨rfl, rfl⟩ := H
  go_enter Try.func97, Try.ntmps97
  go_wp2_with (first | ((with_reducible refine gate_dst (N := 1) rfl ?_); refine boxE (N := 1) (cs := #[.string a0_0, .string a0_1]) (t := 129) (h := ?_); intro gb221 hg w2 hbox hb; have BK221 := Aside0.mk (hbox); have GW221 := Aside0.mk ((t3_ : w.heap.size ≤ gb221)); have GE221 := Aside0.mk ((t3_ : w.heap.size ≤ gb221)); replace HB := Aside0.mk (below_step t0_ hb); clear hb hbox hg) | ((with_reducible refine gate_dst (N := 2) rfl ?_); refine boxE (N := 2) (cs := #[.string (⟨#[]⟩ : ByteArray), .string (⟨#[]⟩ : ByteArray)]) (t := 59) (h := ?_); intro gb222 hg w3 hbox hb; have BK222 := Aside0.mk (hbox); have GW222 := Aside0.mk ((by rw [hg]; exact (below_size (by repeat (first | (with_reducible first | exact HB.out | apply below_alloc | apply pw_below_drewN | apply below_drew1 | refine below_set ?_ GE221.out) | exact HB.out))) : w.heap.size ≤ gb222)); have GE222 := Aside0.mk ((by rw [hg]; exact (below_size (by repeat (first | (with_reducible first | exact HB.out | apply below_alloc | apply pw_below_drewN | apply below_drew1 | refine below_set ?_ GE221.out) | exact HB.out))) : w.heap.size ≤ gb222)); replace HB := Aside0.mk (below_step (by repeat (first | (with_reducible first | exact HB.out | apply below_alloc | apply pw_below_drewN | apply below_drew1 | refine below_set ?_ GE221.out) | exact HB.out)) hb); have NB221_222 := nbL BK221 hg; have NB222_221 := nbG BK221 hg; replace BK221 := bkN BK221 hb; clear hb hbox hg) | ((with_reducible refine gate_dst (N := 3) rfl ?_); refine boxE (N := 3) (cs := #[.string (⟨#[]⟩ : ByteArray), .string (⟨#[]⟩ : ByteArray)]) (t := 59) (h := ?_); intro gb223 hg w4 hbox hb; have BK223 := Aside0.mk (hbox); have GW223 := Aside0.mk ((by rw [hg]; exact (below_size (by repeat (first | (with_reducible first | exact HB.out | apply below_alloc | apply pw_below_drewN | apply below_drew1 | refine below_set ?_ GE221.out | refine below_set ?_ GE222.out) | exact HB.out))) : w.heap.size ≤ gb223)); have GE223 := Aside0.mk ((by rw [hg]; exact (below_size (by repeat (first | (with_reducible first | exact HB.out | apply below_alloc | apply pw_below_drewN | apply below_drew1 | refine below_set ?_ GE221.out | refine below_set ?_ GE222.out) | exact HB.out))) : w.heap.size ≤ gb223)); replace HB := Aside0.mk (below_step (by repeat (first | (with_reducible first | exact HB.out | apply below_alloc | apply pw_below_drewN | apply below_drew1 | refine below_set ?_ GE221.out | refine below_set ?_ GE222.out) | exact HB.out)) hb); have NB221_223 := nbL BK221 hg; have NB223_221 := nbG BK221 hg; replace BK221 := bkN BK221 hb; have NB222_223 := nbL BK222 hg; have NB223_222 := nbG BK222 hg; replace BK222 := bkN BK222 hb; clear hb hbox hg; have hnb5 := NB221_222.out; have hnc5 := NB222_221.out; have hnb6 := NB221_223.out; have hnc6 := NB223_221.out; have hcz7_0 := bc0 BK221; have hcz7_1 := bc1 BK221; have hfz7_0 := bf BK221 0; have hfz7_1 := bf BK221 1; have hnb8 := NB223_222.out; have hnc8 := NB222_223.out; have hcz9_0 := bc0 BK223; have hcz9_1 := bc1 BK223; have hfz9_0 := bf BK223 0; have hfz9_1 := bf BK223 1; have hcz10_0 := bc0 BK222; have hcz10_1 := bc1 BK222; have hfz10_0 := bf BK222 0; have hfz10_1 := bf BK222 1))
  refine bodyPost_ret (results_cell_row rfl _ _ gb222 59 #[.string a0_0, .string a0_1] (0, 0) _ rfl (by (with_reducible repeat (first | refine blk_drewN ?_ _ | refine blk_drew ?_ | refine blk_alloc ?_ _)); refine blk_put (cs := #[.string a0_0, .string (⟨#[]⟩ : ByteArray)]) ?_ 1 _ rfl; (with_reducible repeat (first | refine blk_drewN ?_ _ | refine blk_drew ?_ | refine blk_alloc ?_ _)); refine blk_put (cs := #[.string (⟨#[]⟩ : ByteArray), .string (⟨#[]⟩ : ByteArray)]) ?_ 0 _ rfl; (with_reducible repeat (first | refine blk_drewN ?_ _ | refine blk_drew ?_ | refine blk_alloc ?_ _)); refine blk_far ?_ NB222_223.out _; (with_reducible repeat (first | refine blk_drewN ?_ _ | refine blk_drew ?_ | refine blk_alloc ?_ _)); refine blk_far ?_ NB222_223.out _; (with_reducible repeat (first | refine blk_drewN ?_ _ | refine blk_drew ?_ | refine blk_alloc ?_ _)); exact BK222.out) Try.underlying59 rfl (by kernel_rfl)) rfl ?_
  exact ⟨by first | rfl | (simp [errW_none, errW_some] <;> rfl) | (simp [*, errW_none, errW_some] <;> rfl), by repeat (first | (with_reducible first | exact HB.out | apply below_alloc | apply pw_below_drewN | apply below_drew1 | refine below_set ?_ GE221.out | refine below_set ?_ GE222.out | refine below_set ?_ GE223.out) | exact HB.out)⟩

end Go.Proofs.Ytpjhbhjmaggheaa.QFnExactMapDo
