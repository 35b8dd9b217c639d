-- By a program of this session, over the kit's print.
import Derived.Test.YtpjhbhjmaggheaaQFnExactPutRawsx0
import Derived.Test.YtpjhbhjmaggheaaQFnExactPutRawsx6
import Derived.Test.YtpjhbhjmaggheaaQFnExactPutRawsx9
namespace Go.Proofs.Ytpjhbhjmaggheaa.QFnExactPutRaws
open Go.RowKit Go.Proofs.YtpjhbhjmaggheaaW.PrintWords Go.Proofs.YtpjhbhjmaggheaaW.PrintLast Go.Proofs.YtpjhbhjmaggheaaW.PrintMore
attribute [local go_sem] max2_int min2_int max_two min_two max_three min_three max_four min_four   -- for this text's walks alone
set_option linter.unusedVariables false
set_option linter.unusedSimpArgs false

/-! ### spec_PutRaws: function 39 -/
mutual
def spec_PutRaws.j0 : Nat → List (S65) → Bool → List (S71) → Option ((List (S71)) × Int)
  | 0, _, _, _ => none
  | k + 1, x1, x17, x334000 => if x17 = true then (some (([] : List (S71)), 0)) else ((some (([] : List (S71)) : List (S71))).bind fun y336 => (if y336.length + x334000.length < 4398046511104 then (spec_PutRaws.l0 k x1 0 (y336 ++ x334000)) else (none)))
def spec_PutRaws.l0 : Nat → List (S65) → Int → List (S71) → Option ((List (S71)) × Int)
  | 0, _, _, _ => none
  | k + 1, x1, x7, x343000 => if x7 < (x1.length : Int) then (if 0 ≤ x7 then ((spec_PutRaw.f k x343000 ((rd_T65 x1 x7).f0) ((rd_T65 x1 x7).f1) ((rd_T65 x1 x7).f2) ((rd_T65 x1 x7).f3)).bind fun bt344 => (if bt344.2 = true then (spec_PutRaws.l0 k x1 (wrap64 (x7 + 1)) bt344.1) else (some (x343000, x7)))) else (none)) else (some (x343000, (x1.length : Int)))
end
def spec_PutRaws.f (k : Nat) (l0_0 : List (S71)) (l1 : List (S65)) : Option ((List (S71)) × Int) := (spec_DiskOk.f k l0_0).bind fun t335 => (if t335 = true then (spec_PutRaws.j0 k l1 (decide ((l1.length : Int) > 60)) l0_0) else (spec_PutRaws.j0 k l1 true l0_0))
theorem spec_PutRaws.mono_l : ∀ k, (∀ y0 y1 y2, LeO (spec_PutRaws.j0 k y0 y1 y2) (spec_PutRaws.j0 (k + 1) y0 y1 y2)) ∧ (∀ y0 y1 y2, LeO (spec_PutRaws.l0 k y0 y1 y2) (spec_PutRaws.l0 (k + 1) y0 y1 y2))
  | 0 => ⟨fun _ _ _ r h => by simp [spec_PutRaws.j0] at h, fun _ _ _ r h => by simp [spec_PutRaws.l0] at h⟩
  | k + 1 => by
    obtain ⟨ih0, ih1⟩ := spec_PutRaws.mono_l k
    refine ⟨?_, ?_⟩
    · intro y0 y1 y2
      unfold spec_PutRaws.j0
      repeat' first
      | (with_reducible exact ih0 _ _ _)
      | (with_reducible exact ih1 _ _ _)
      | (with_reducible exact spec_DiskOk.mono _ _)
      | (with_reducible exact spec_PutRaw.mono _ _ _ _ _ _)
      | (with_reducible exact LeO.refl _)
      | (with_reducible exact LeO.none _)
      | (with_reducible refine LeO.ite ?_ ?_)
      | (with_reducible refine LeO.bind ?_ (fun _ => ?_))
      | exact ih0 _ _ _
      | exact ih1 _ _ _
      | exact spec_DiskOk.mono _ _
      | exact spec_PutRaw.mono _ _ _ _ _ _
      | exact LeO.none _
      | refine LeO.ite ?_ ?_
      | refine LeO.bind ?_ (fun _ => ?_)
    · intro y0 y1 y2
      unfold spec_PutRaws.l0
      repeat' first
      | (with_reducible exact ih0 _ _ _)
      | (with_reducible exact ih1 _ _ _)
      | (with_reducible exact spec_DiskOk.mono _ _)
      | (with_reducible exact spec_PutRaw.mono _ _ _ _ _ _)
      | (with_reducible exact LeO.refl _)
      | (with_reducible exact LeO.none _)
      | (with_reducible refine LeO.ite ?_ ?_)
      | (with_reducible refine LeO.bind ?_ (fun _ => ?_))
      | exact ih0 _ _ _
      | exact ih1 _ _ _
      | exact spec_DiskOk.mono _ _
      | exact spec_PutRaw.mono _ _ _ _ _ _
      | exact LeO.none _
      | refine LeO.ite ?_ ?_
      | refine LeO.bind ?_ (fun _ => ?_)
theorem spec_PutRaws.mono : ∀ a0 a1 k, LeO (spec_PutRaws.f k a0 a1) (spec_PutRaws.f (k + 1) a0 a1) := by
  intro a0 a1 k
  obtain ⟨ih0, ih1⟩ := spec_PutRaws.mono_l k
  unfold spec_PutRaws.f
  repeat' first
      | (with_reducible exact ih0 _ _ _)
      | (with_reducible exact ih1 _ _ _)
      | (with_reducible exact spec_DiskOk.mono _ _)
      | (with_reducible exact spec_PutRaw.mono _ _ _ _ _ _)
      | (with_reducible exact LeO.refl _)
      | (with_reducible exact LeO.none _)
      | (with_reducible refine LeO.ite ?_ ?_)
      | (with_reducible refine LeO.bind ?_ (fun _ => ?_))
      | exact ih0 _ _ _
      | exact ih1 _ _ _
      | exact spec_DiskOk.mono _ _
      | exact spec_PutRaw.mono _ _ _ _ _ _
      | exact LeO.none _
      | refine LeO.ite ?_ ?_
      | refine LeO.bind ?_ (fun _ => ?_)
def spec_PutRaws.T7 : Bool × List (List Nat × List Nat) := (true, [([], []), ([], []), ([], []), ([1, 2], [1, 2]), ([3], [3]), ([0, 4], [0, 4]), ([5], [5]), ([6], [6]), ([6], [6]), ([], []), ([9, 7, 5, 0, 1, 2, 3, 4, 5, 6, 7, 9], [7, 9]), ([8, 10, 0, 1, 2, 3, 4, 5, 6, 7, 8, 9, 10], [8])])
def spec_PutRaws.B7 : List Nat := [0, 0, 0, 6, 14, 31, 63, 127, 127, 0, 767, 2047]
theorem spec_PutRaws.tab7 : rtab .any (opsOf Try.f39 7) = spec_PutRaws.T7 := by kernel_rfl
theorem spec_PutRaws.bits7 : waitsOk spec_PutRaws.T7.2 spec_PutRaws.B7 = true := by kernel_rfl
set_option maxHeartbeats 8000000 in
set_option maxRecDepth 100000 in
theorem spec_PutRaws.calls (k : Nat) (A0_0 : Option Addr) (c0_0 : Nat) (l0_0 : List (S71)) (A1 : Option Addr) (c1 : Nat) (l1 : List (S65)) (r1 : List (S71)) (r2 : Int) (w : World) (hr0_0 : Kd.C k71 w A0_0 l0_0.length l0_0) (hc0_0 : l0_0.length ≤ c0_0) (hr1 : Kd.C k65 w A1 l1.length l1) (hc1 : l1.length ≤ c1) (h : spec_PutRaws.f k l0_0 l1 = some (r1, r2)) :
    Calls Try.prog 39 #[.agg #[.slice A0_0 l0_0.length c0_0], .slice A1 l1.length c1] w fun e w' => ∃ v0_ : Value, e = .returned (.tuple #[.agg #[v0_], .int .i64 r2]) ∧ Kd.R k71 71 w' w.heap.size (fun _ => True) v0_ r1 ∧ Below w.heap.size w w' := by
  have hu30 := Try.underlying30
  have hu65 := Try.underlying65
  have HR0_0 := Aside0.mk hr0_0
  have HC0_0 := Aside0.mk hc0_0
  clear hr0_0 hc0_0
  have HR1 := Aside0.mk hr1
  have HC1 := Aside0.mk hc1
  clear hr1 hc1
  have HB := Aside0.mk (Below.refl w.heap.size w)
  have H : ((spec_DiskOk.f k l0_0).bind fun t335 => (if t335 = true then (spec_PutRaws.j0 k l1 (decide ((l1.length : Int) > 60)) l0_0) else (spec_PutRaws.j0 k l1 true l0_0))) = some (r1, r2) := h
  clear h
  have HC3 := Aside0.mk H
  clear H
  go_enter Try.func39, Try.ntmps39
  go_upto_region 1 with (first | ((with_reducible refine gate_dst (N := 2) rfl ?_); (try (refine gate_guard (by rfl) ?_; dsimp only)); refine boxE (N := 2) (cs := #[.slice A0_0 l0_0.length c0_0]) (t := 30) (h := ?_); intro gb333 hg w4 hbox hb; have BK333 := Aside0.mk (hbox); have GW333 := Aside0.mk ((t4_ : w.heap.size ≤ gb333)); have GE333 := Aside0.mk ((t4_ : w.heap.size ≤ gb333)); replace HB := Aside0.mk (below_step t0_ hb); clear hb hbox hg) | ((with_reducible refine gate_dst (N := 4) rfl ?_); (try (refine gate_guard (by rfl) ?_; dsimp only)); refine boxE (N := 4) (cs := #[.slice none 0 0]) (t := 30) (h := ?_); intro gb334 hg w5 hbox hb; have BK334 := Aside0.mk (hbox); have GW334 := Aside0.mk ((by rw [hg]; exact (below_size (by repeat (first | (with_reducible first | exact HB.out | apply below_alloc | apply pw_below_drewN | apply below_drew1 | refine below_set ?_ GE333.out) | exact HB.out))) : w.heap.size ≤ gb334)); have GE334 := Aside0.mk ((by rw [hg]; exact (below_size (by repeat (first | (with_reducible first | exact HB.out | apply below_alloc | apply pw_below_drewN | apply below_drew1 | refine below_set ?_ GE333.out) | exact HB.out))) : w.heap.size ≤ gb334)); replace HB := Aside0.mk (below_step (by repeat (first | (with_reducible first | exact HB.out | apply below_alloc | apply pw_below_drewN | apply below_drew1 | refine below_set ?_ GE333.out) | exact HB.out)) hb); have NB333_334 := nbL BK333 hg; have NB334_333 := nbG BK333 hg; replace BK333 := bkN BK333 hb; clear hb hbox hg))
  (try simp only [Act.put, List.setIfInBounds_toArray, List.set_cons_zero, List.set_cons_succ])
  go_cut [17] (fun v17 wc => ∃ (kq : Nat) (x17_2 : Bool), v17 = .bool x17_2 ∧ Aside0 (spec_PutRaws.j0 kq l1 x17_2 l0_0 = some (r1, r2)) ∧ Aside0 (kq ≤ k) ∧ Aside0 (wc.heap[gb333]? = some (.cells #[(.slice A0_0 l0_0.length c0_0)] 30 (0, 0))) ∧ Aside0 (wc.heap[gb334]? = some (.cells #[(.slice none 0 0)] 30 (0, 0))) ∧ Aside0 (Below w.heap.size w wc))
  case first =>
    have H := HC3.out
    clear HC3
    replace H := Option.bind_eq_some_iff.mp H
    obtain ⟨t335, A60, H⟩ := H
    replace H : (if t335 = true then (spec_PutRaws.j0 k l1 (decide ((l1.length : Int) > 60)) l0_0) else (spec_PutRaws.j0 k l1 true l0_0)) = some (r1, r2) := H
    have A6 := Aside0.mk A60
    clear A60
    by_cases c7 : t335 = true
    · subst c7
      have H1 : (spec_PutRaws.j0 k l1 (decide ((l1.length : Int) > 60)) l0_0) = some (r1, r2) := by rw [if_pos rfl] at H; exact H
      clear H
      have H := H1
      clear H1
      have H' := Aside0.mk H
      clear H
      have hnb8 := NB333_334.out
      have hnc8 := NB334_333.out
      have hcz9_0 := bc0 BK333
      have hfz9_0 := bf BK333 0
      go_wp2_with (first | ((with_reducible refine gate_callee (f := 56) rfl ?_); refine goesL_ (some 11) rfl rfl Try.func56 (by kernel_rfl) rfl #[.agg #[.slice A0_0 l0_0.length c0_0]] rfl t1_ ?_; (with_reducible refine (spec_DiskOk.calls k _ _ l0_0 true _ ?side1 ?side2 A6.out).mono ?_); (case side1 => exact cB HR0_0 HB); (case side2 => exact HC0_0.out); rintro e w10 ⟨rfl, hb⟩; refine ⟨_, rfl, ?_⟩; replace BK333 := bkN BK333 hb; replace BK334 := bkN BK334 hb; replace HB := Aside0.mk (below_step t24_ hb); (try clear hb); (try clear hb2); (try clear hk); (try clear hi)))
      go_meet
      case rel => exact ⟨_, (decide ((l1.length : Int) > 60)), t19_, H', ⟨by first | omega | exact Nat.le_refl _⟩, ⟨by (with_reducible repeat (first | refine blk_drewN ?_ _ | refine blk_drew ?_ | refine blk_alloc ?_ _)); exact BK333.out⟩, ⟨by (with_reducible repeat (first | refine blk_drewN ?_ _ | refine blk_drew ?_ | refine blk_alloc ?_ _)); exact BK334.out⟩, ⟨t24_⟩⟩
    · replace c7 := Bool.eq_false_iff.mpr c7
      subst c7
      have H1 : (spec_PutRaws.j0 k l1 true l0_0) = some (r1, r2) := by rw [if_neg (show ¬ (false = true) by decide)] at H; exact H
      clear H
      have H := H1
      clear H1
      have H' := Aside0.mk H
      clear H
      have hnb11 := NB333_334.out
      have hnc11 := NB334_333.out
      have hcz12_0 := bc0 BK333
      have hfz12_0 := bf BK333 0
      go_wp2_with (first | ((with_reducible refine gate_callee (f := 56) rfl ?_); refine goesL_ (some 11) rfl rfl Try.func56 (by kernel_rfl) rfl #[.agg #[.slice A0_0 l0_0.length c0_0]] rfl t1_ ?_; (with_reducible refine (spec_DiskOk.calls k _ _ l0_0 false _ ?side1 ?side2 A6.out).mono ?_); (case side1 => exact cB HR0_0 HB); (case side2 => exact HC0_0.out); rintro e w13 ⟨rfl, hb⟩; refine ⟨_, rfl, ?_⟩; replace BK333 := bkN BK333 hb; replace BK334 := bkN BK334 hb; replace HB := Aside0.mk (below_step t24_ hb); (try clear hb); (try clear hb2); (try clear hk); (try clear hi)))
      go_meet
      case rel => exact ⟨_, (true), t19_, H', ⟨by first | omega | exact Nat.le_refl _⟩, ⟨by (with_reducible repeat (first | refine blk_drewN ?_ _ | refine blk_drew ?_ | refine blk_alloc ?_ _)); exact BK333.out⟩, ⟨by (with_reducible repeat (first | refine blk_drewN ?_ _ | refine blk_drew ?_ | refine blk_alloc ?_ _)); exact BK334.out⟩, ⟨t24_⟩⟩
  case rest =>
    clear HC3
    try clear c1
    try clear p2
    try clear c3
    try clear c5
    try clear c7
    try clear c8
    try clear c11
    try clear hcz12_0
    try clear hcz9_0
    try clear hfz12_0
    try clear hfz9_0
    obtain ⟨kq, x17_2, rfl, HA, HJ2, BK333, BK334, HB⟩ := hcut
    cases kq with
    | zero => exact absurd HA.out (by simp [spec_PutRaws.j0])
    | succ kj2 =>
      have H := HA.out
      clear HA
      simp only [spec_PutRaws.j0] at H
      by_cases c14 : x17_2 = true
      · subst c14
        have H1 : (some (([] : List (S71)), 0)) = some (r1, r2) := by rw [if_pos rfl] at H; exact H
        clear H
        have H := H1
        clear H1
        simp only [Option.some.injEq, Prod.mk.injEq] at H
        obtain ⟨rfl, rfl⟩ := H
        have hnb15 := NB334_333.out
        have hnc15 := NB333_334.out
        have hcz16_0 := bc0 BK334
        have hfz16_0 := bf BK334 0
        go_wp2
        refine bodyPost_ret (results_ct rfl _ _ gb334 30 #[.slice none 0 0] (0, 0) _ rfl (by (with_reducible repeat (first | refine blk_drewN ?_ _ | refine blk_drew ?_ | refine blk_alloc ?_ _)); refine blk_put (cs := #[.slice none 0 0]) ?_ 0 _ rfl; (with_reducible repeat (first | refine blk_drewN ?_ _ | refine blk_drew ?_ | refine blk_alloc ?_ _)); exact BK334.out) Try.underlying30 rfl (by kernel_rfl)) rfl ?_
        exact ⟨_, by first | rfl | (simp [errW_none, errW_some] <;> rfl) | (simp [*, errW_none, errW_some] <;> rfl), by first | exact Kd.R_nil _ _ _ _ _ | exact Kd.N_nil _ _ _ _ _ | exact Kd.V_nil _ _ _ _ _ | exact Kd.Q_nil _ _ _ _ _ | exact Kd.S_nil _ _ _ _ _, t24_⟩
      · replace c14 := Bool.eq_false_iff.mpr c14
        subst c14
        have H1 : ((some (([] : List (S71)) : List (S71))).bind fun y336 => (if y336.length + l0_0.length < 4398046511104 then (spec_PutRaws.l0 kj2 l1 0 (y336 ++ l0_0)) else (none))) = some (r1, r2) := by rw [if_neg (show ¬ (false = true) by decide)] at H; exact H
        clear H
        have H := H1
        clear H1
        obtain ⟨y336, hy336⟩ : ∃ y_ : List (S71), y_ = (([] : List (S71))) := ⟨_, rfl⟩
        replace H : (if y336.length + l0_0.length < 4398046511104 then (spec_PutRaws.l0 kj2 l1 0 (y336 ++ l0_0)) else (none)) = some (r1, r2) := by first | (rw [hy336]; with_reducible exact H) | (have H2_ := (Option.bind_some _ _).symm.trans H; rw [hy336]; with_reducible exact H2_) | (have H2_ := (Option.bind_some _ _).symm.trans H; with_reducible exact H2_) | with_reducible exact H | (rw [hy336]; exact H) | exact H
        have Ny336 := Aside0.mk hy336
        clear hy336
        by_cases c17 : y336.length + l0_0.length < 4398046511104
        · rw [if_pos c17] at H
          have LMc17 := Aside0.mk c17
          clear c17
          obtain ⟨y339, hy339⟩ : ∃ y_ : List (S71), y_ = (y336 ++ l0_0) := ⟨_, rfl⟩
          replace H : (spec_PutRaws.l0 kj2 l1 0 y339) = some (r1, r2) := by first | (rw [hy339]; with_reducible exact H) | (have H2_ := (Option.bind_some _ _).symm.trans H; rw [hy339]; with_reducible exact H2_) | (have H2_ := (Option.bind_some _ _).symm.trans H; with_reducible exact H2_) | with_reducible exact H | (rw [hy339]; exact H) | exact H
          have Ny339 := Aside0.mk hy339
          clear hy339
          have H' := Aside0.mk H
          clear H
          go_wp2_with (first | ((with_reducible refine gate_dst (N := 19) rfl ?_); (try (refine gate_guard (by rfl) ?_; dsimp only)); refine Kd.R_lit k71 _ 71 ?hg (N := 19) ?hd (xs := ([] : List (S71))) (inner := []) (ok := fun _ => True) (okp := fun _ => True) ?hr ?hp (fun _ hk => hk) trivial (Below.refl _ _) (Nat.le_refl _) (by simp) ?_; (case hd => rfl); (case hg => rfl); (case hr => first | (go_simp; done) | (go_simp; rfl)); (case hp => exact (Reps.none _ _)); intro v337 w18 ho19 hb hg_ hnew_; clear hg_ hnew_; (first | rw [← Ny336.out] at ho19 | (simp only [Int.reduceToNat] at ho19; rw [← Ny336.out] at ho19)); have HO338 := Aside0.mk (Kd.R_lower ho19 (below_size t24_)); replace BK333 := bkN BK333 hb; replace BK334 := bkN BK334 hb; replace HB := Aside0.mk (below_step t24_ hb); clear hb ho19; have hnb20 := NB333_334.out; have hnc20 := NB334_333.out; have hcz21_0 := bc0 BK333; have hfz21_0 := bf BK333 0) | ((with_reducible refine gate_builtin (b := .append) (xs := #[.tmp 19, .tmp 21]) rfl ?_); (try (refine gate_guard (by rfl) ?_; dsimp only)); at_builtin; refine Kd.R_append_rows k71 (w0 := w) w.heap.size rfl (.tmp 19) (.tmp 21) 28 71 (.agg #[(.string ⟨#[]⟩), (.string ⟨#[]⟩)]) 32 rfl Try.underlying28 info71 rfl (by decide) (by omega) v337 y336 l0_0 _ _ _ (fun _ => True) (fun _ => False) rfl rfl ?aO ?aR (fun _ _ h => h) (fun _ h => h.elim) ?aF ?aB ?aS ?aL ?_; (case aR => exact cB HR0_0 HB); (case aB => exact t24_); (case aF => exact (fun _ _ => trivial)); (case aO => exact (by (with_reducible repeat (first | apply Kd.R_alloc | apply Kd.R_drewN | apply Kd.R_drew)); exact HO338.out)); (case aS => exact (below_size t24_)); (case aL => have := LMc17.out; omega); intro v340 w22 ho hb hg hat; rw [← Ny339.out] at ho; have n0_ := Aside0.mk (blk_grown (g := gb333) (o := .cells #[.slice A0_0 l0_0.length c0_0] 30 (0, 0)) t66_ hg (Kd.R_ne HO338.out BK333.out (by decide))); have n1_ := Aside0.mk (blk_grown (g := gb334) (o := .cells #[.slice none 0 0] 30 (0, 0)) t67_ hg (Kd.R_ne HO338.out BK334.out (by decide))); have n2_ := Aside0.mk (hb); have n3_ := Aside0.mk (ho); clear BK333; clear BK334; clear HB; clear HO338; have BK333 := n0_; have BK334 := n1_; have HB := n2_; have HO341 := n3_; clear n0_ n1_ n2_ n3_; clear ho hb hg hat; obtain ⟨Ao23, co23, eo23⟩ := Kd.R_slice HO341.out; subst eo23) | ((with_reducible refine gate_dst (N := 6) rfl ?_); (try (refine gate_guard (by rfl) ?_; dsimp only)); refine boxE (N := 6) (cs := #[.slice none 0 0]) (t := 30) (h := ?_); intro gb342 hg w24 hbox hb; replace HO341 := Aside0.mk (Kd.R_below (by (with_reducible repeat (first | apply Kd.R_alloc | apply Kd.R_drewN | apply Kd.R_drew)); exact HO341.out) hb); have BK342 := Aside0.mk (hbox); have GW342 := Aside0.mk ((by rw [hg]; exact (below_size t24_) : w.heap.size ≤ gb342)); have GE342 := Aside0.mk ((by rw [hg]; exact (below_size t24_) : w.heap.size ≤ gb342)); replace HB := Aside0.mk (below_step t24_ hb); have NB333_342 := nbL BK333 hg; have NB342_333 := nbG BK333 hg; replace BK333 := bkN BK333 hb; have NB334_342 := nbL BK334 hg; have NB342_334 := nbG BK334 hg; replace BK334 := bkN BK334 hb; clear hb hbox hg; have hnb25 := NB342_333.out; have hnc25 := NB333_342.out; have hnb26 := NB342_334.out; have hnc26 := NB334_342.out; have hcz27_0 := bc0 BK342; have hfz27_0 := bf BK342 0))
          go_loopg [7] kj2 (fun kq v7 w' => ∃ (x7_2 : Int) (x343000_2 : List (S71)) (u343000 : Value), v7 = .int .i64 x7_2 ∧ Aside0 (spec_PutRaws.l0 kq l1 x7_2 x343000_2 = some (r1, r2)) ∧ Aside0 (kq ≤ kj2) ∧ Aside0 (Kd.R k71 71 w' w.heap.size (fun _ => True) u343000 x343000_2) ∧ Aside0 (w'.heap[gb333]? = some (.cells #[(.slice A0_0 l0_0.length c0_0)] 30 (0, 0))) ∧ Aside0 (w'.heap[gb334]? = some (.cells #[(.slice none 0 0)] 30 (0, 0))) ∧ Aside0 (w'.heap[gb342]? = some (.cells #[u343000] 30 (0, 0))) ∧ Aside0 (Below w.heap.size w w'))
          case atStart => exact ⟨(0), (y339), (.slice Ao23 y339.length co23), t19_, H', ⟨Nat.le_refl _⟩, ⟨by (with_reducible repeat (first | apply Kd.R_alloc | apply Kd.R_drewN | apply Kd.R_drew)); exact Kd.R_mono (Kd.R_far (p := ⟨gb342, 0, none⟩) (Kd.R_types HO341.out BK342.out (by decide)) (fun _ hk => hk.2) (.slice Ao23 y339.length co23)) (fun _ hk => trivial)⟩, ⟨by (with_reducible repeat (first | refine blk_drewN ?_ _ | refine blk_drew ?_ | refine blk_alloc ?_ _)); refine blk_far ?_ NB333_342.out _; (with_reducible repeat (first | refine blk_drewN ?_ _ | refine blk_drew ?_ | refine blk_alloc ?_ _)); exact BK333.out⟩, ⟨by (with_reducible repeat (first | refine blk_drewN ?_ _ | refine blk_drew ?_ | refine blk_alloc ?_ _)); refine blk_far ?_ NB334_342.out _; (with_reducible repeat (first | refine blk_drewN ?_ _ | refine blk_drew ?_ | refine blk_alloc ?_ _)); exact BK334.out⟩, ⟨by (with_reducible repeat (first | refine blk_drewN ?_ _ | refine blk_drew ?_ | refine blk_alloc ?_ _)); refine blk_put (cs := #[.slice none 0 0]) ?_ 0 _ rfl; (with_reducible repeat (first | refine blk_drewN ?_ _ | refine blk_drew ?_ | refine blk_alloc ?_ _)); exact BK342.out⟩, ⟨t17_⟩⟩
          case round =>
            clear H'
            try clear c1
            try clear c2
            try clear p2
            try clear c3
            try clear c5
            try clear c7
            try clear c8
            try clear c11
            try clear c14
            try clear c15
            try clear c17
            try clear c20
            try clear c25
            try clear c26
            try clear hcz12_0
            try clear hcz16_0
            try clear hcz21_0
            try clear hcz27_0
            try clear hcz9_0
            try clear hfz12_0
            try clear hfz16_0
            try clear hfz21_0
            try clear hfz27_0
            try clear hfz9_0
            try clear p2
            obtain ⟨x7_2, x343000_2, u343000, rfl, HA, HK2, HO_343000, BK333, BK334, BK342, HB⟩ := hrel
            cases gk with
            | zero => exact absurd HA.out (by simp [spec_PutRaws.l0])
            | succ k2 =>
              have H := HA.out
              clear HA
              simp only [spec_PutRaws.l0] at H
              by_cases c28 : x7_2 < (l1.length : Int)
              · rw [if_pos c28] at H
                have c28b0 : decide (x7_2 < (l1.length : Int)) = true := decide_eq_true c28
                clear c28
                by_cases c29 : 0 ≤ x7_2
                · rw [if_pos c29] at H
                  have c29b0 : decide (0 ≤ x7_2) = true := decide_eq_true c29
                  clear c29
                  replace H := Option.bind_eq_some_iff.mp H
                  obtain ⟨⟨t344, t347⟩, A300, H⟩ := H
                  replace H : (if t347 = true then (spec_PutRaws.l0 k2 l1 (wrap64 (x7_2 + 1)) t344) else (some (x343000_2, x7_2))) = some (r1, r2) := H
                  have A30 := Aside0.mk A300
                  clear A300
                  by_cases c31 : t347 = true
                  · subst c31
                    have H1 : (spec_PutRaws.l0 k2 l1 (wrap64 (x7_2 + 1)) t344) = some (r1, r2) := by rw [if_pos rfl] at H; exact H
                    clear H
                    have H := H1
                    clear H1
                    have H' := Aside0.mk H
                    clear H
                    obtain ⟨Ao32, co32, eo32⟩ := Kd.R_slice HO_343000.out
                    subst eo32
                    try go_wp2
                    replace HO_343000 := Aside0.mk (Kd.R_drew HO_343000.out)
                    replace BK333 := Aside0.mk (blk_drew BK333.out)
                    replace BK334 := Aside0.mk (blk_drew BK334.out)
                    replace BK342 := Aside0.mk (blk_drew BK342.out)
                    replace HB := Aside0.mk (below_drew1 HB.out)
                    have p343 : 0 ≤ (x7_2 : Int) := of_decide_eq_true t7_
                    have q343 : x7_2 < (l1.length : Int) := of_decide_eq_true t7_
                    obtain ⟨ad343, e343, hx343_0, hx343_1, hx343_2, hx343_3⟩ := at_T65 HR1.out x7_2 p343 q343
                    have hw343_3 := hx343_3
                    have hw343_2 := hx343_2
                    have hw343_1 := hx343_1
                    have hw343_0 := hx343_0
                    cases e343
                    replace hx343_0 := (HB.out.cell (World.block_lt_of_cell? w _ hx343_0)).trans hx343_0
                    replace hx343_1 := (HB.out.cell (World.block_lt_of_cell? w _ hx343_1)).trans hx343_1
                    replace hx343_2 := (HB.out.cell (World.block_lt_of_cell? w _ hx343_2)).trans hx343_2
                    replace hx343_3 := (HB.out.cell (World.block_lt_of_cell? w _ hx343_3)).trans hx343_3
                    replace p343 := eq_true p343
                    replace q343 := eq_true q343
                    refine start_ (n := 12) (S := fun w' => w'.cell? ⟨gb342, 0, none⟩ = some (.slice Ao32 x343000_2.length co32) ∧ w'.cell? (ad343.add ((x7_2).toNat * 4)) = some (.int .i64 ((rd_T65 l1 x7_2).f0)) ∧ w'.cell? ⟨(ad343.add ((x7_2).toNat * 4)).block, (ad343.add ((x7_2).toNat * 4)).off + 1, none⟩ = some (.string ((rd_T65 l1 x7_2).f1)) ∧ w'.cell? ⟨(ad343.add ((x7_2).toNat * 4)).block, (ad343.add ((x7_2).toNat * 4)).off + 2, none⟩ = some (.string ((rd_T65 l1 x7_2).f2)) ∧ w'.cell? ⟨(ad343.add ((x7_2).toNat * 4)).block, (ad343.add ((x7_2).toNat * 4)).off + 3, none⟩ = some (.string ((rd_T65 l1 x7_2).f3))) (ds := []) #[false, false, false, false, false, false, false, false, false, false, false, false] (by kernel_rfl) rfl rfl ⟨bc0 BK342, ((HB.out.cell (World.block_lt_of_cell? w _ hw343_0)).trans hw343_0), ((HB.out.cell (World.block_lt_of_cell? w _ hw343_1)).trans hw343_1), ((HB.out.cell (World.block_lt_of_cell? w _ hw343_2)).trans hw343_2), ((HB.out.cell (World.block_lt_of_cell? w _ hw343_3)).trans hw343_3)⟩ (fun hHeld => ?_); refine with_tabW spec_PutRaws.tab7 spec_PutRaws.bits7 (fun HT_ HW_ => ?_)
                    generalize wr.drew = w33 at HO_343000 BK333 BK334 BK342 HB hx343_0 hx343_1 hx343_2 hx343_3 hHeld ⊢
                    refine pure_ (i := 1) (N := some 32) (v := ?_) (a' := ?_) #[false, true, false, false, false, false, false, false, false, false, false, false] rfl rfl (any_of HT_.out (by kernel_rfl)) (fun _ _ _ h => h) (Or.inl ⟨by rfl, ?_⟩) ?_ ?_
                    rotate_left
                    · intro w'
                      go_simp
                      with_reducible rfl
                    rotate_left
                    · simp only [Act.put, List.setIfInBounds_toArray, List.set_cons_zero, List.set_cons_succ, i64_w, i32_w]
                      rfl
                    refine pure_ (i := 2) (N := some 33) (v := ?_) (a' := ?_) #[false, true, true, false, false, false, false, false, false, false, false, false] rfl rfl (any_of HT_.out (by kernel_rfl)) (fun _ _ _ h => h) (Or.inl ⟨by rfl, ?_⟩) ?_ ?_
                    rotate_left
                    · intro w'
                      go_simp
                      with_reducible rfl
                    rotate_left
                    · simp only [Act.put, List.setIfInBounds_toArray, List.set_cons_zero, List.set_cons_succ, i64_w, i32_w]
                      rfl
                    refine pure_ (i := 3) (N := some 34) (v := ?_) (a' := ?_) #[false, true, true, true, false, false, false, false, false, false, false, false] rfl rfl (any_of HT_.out (by kernel_rfl)) (fun _ _ _ h => h) (Or.inl ⟨by rfl, ?_⟩) ?_ ?_
                    rotate_left
                    · intro w'
                      go_simp
                      with_reducible rfl
                    rotate_left
                    · simp only [Act.put, List.setIfInBounds_toArray, List.set_cons_zero, List.set_cons_succ, i64_w, i32_w]
                      rfl
                    refine take_ (i := 0) (N := some 31) (v := ?_) (a' := ?_) #[true, true, true, true, false, false, false, false, false, false, false, false] rfl rfl (take_ofW HT_.out HW_.out (by kernel_rfl)) (fun _ _ _ h => h) (Or.inl ⟨by rfl, ?_⟩) hHeld ?_ ?_
                    rotate_left
                    · rintro w' ⟨s0, s1, s2, s3, s4⟩
                      go_simp
                      with_reducible rfl
                    rotate_left
                    · simp only [Act.put, List.setIfInBounds_toArray, List.set_cons_zero, List.set_cons_succ, i64_w, i32_w]
                      rfl
                    refine take_ (i := 4) (N := some 35) (v := ?_) (a' := ?_) #[true, true, true, true, true, false, false, false, false, false, false, false] rfl rfl (take_ofW HT_.out HW_.out (by kernel_rfl)) (fun _ _ _ h => h) (Or.inl ⟨by rfl, ?_⟩) hHeld ?_ ?_
                    rotate_left
                    · rintro w' ⟨s0, s1, s2, s3, s4⟩
                      go_simp
                      with_reducible rfl
                    rotate_left
                    · simp only [Act.put, List.setIfInBounds_toArray, List.set_cons_zero, List.set_cons_succ, i64_w, i32_w]
                      rfl
                    refine join_ (σ := Value × Nat) 2 #[true, true, true, true, true, true, true, true, true, true, false, false] (fun s_ => [(36, .tuple #[.agg #[s_.1], .bool true]), (8, .pointer (some ⟨s_.2, 0, none⟩)), (30, .tuple #[.agg #[s_.1], .bool true]), (37, .agg #[s_.1]), (38, .bool true)]) (fun s_ w' => (w'.cell? ⟨gb342, 0, none⟩ = some (.slice Ao32 x343000_2.length co32) ∧ w'.cell? (ad343.add ((x7_2).toNat * 4)) = some (.int .i64 ((rd_T65 l1 x7_2).f0)) ∧ w'.cell? ⟨(ad343.add ((x7_2).toNat * 4)).block, (ad343.add ((x7_2).toNat * 4)).off + 1, none⟩ = some (.string ((rd_T65 l1 x7_2).f1)) ∧ w'.cell? ⟨(ad343.add ((x7_2).toNat * 4)).block, (ad343.add ((x7_2).toNat * 4)).off + 2, none⟩ = some (.string ((rd_T65 l1 x7_2).f2)) ∧ w'.cell? ⟨(ad343.add ((x7_2).toNat * 4)).block, (ad343.add ((x7_2).toNat * 4)).off + 3, none⟩ = some (.string ((rd_T65 l1 x7_2).f3))) ∧ (Kd.R k71 71 w' w.heap.size (fun k_ => some k_ ≠ (.slice Ao32 x343000_2.length co32 : Value).ownBlock) s_.1 t344) ∧ (Kd.R k71 71 w' w.heap.size (fun k_ => some k_ ≠ (s_.1 : Value).ownBlock) (.slice Ao32 x343000_2.length co32) x343000_2) ∧ (w'.heap[gb333]? = some (.cells #[.slice A0_0 l0_0.length c0_0] 30 (0, 0))) ∧ (w'.heap[gb334]? = some (.cells #[.slice none 0 0] 30 (0, 0))) ∧ (w'.heap[gb342]? = some (.cells #[.slice Ao32 x343000_2.length co32] 30 (0, 0))) ∧ (w'.heap[s_.2]? = some (.cells #[.slice none 0 0] 30 (0, 0))) ∧ (w.heap.size ≤ s_.2) ∧ (w.heap.size ≤ s_.2) ∧ (gb333 ≠ s_.2) ∧ (s_.2 ≠ gb333) ∧ (gb334 ≠ s_.2) ∧ (s_.2 ≠ gb334) ∧ (gb342 ≠ s_.2) ∧ (s_.2 ≠ gb342) ∧ (Below w.heap.size w w')) ?_ ?_
                    rotate_left
                    · intro hCont
                      refine two_ (i := 5) (j := 9) (Ni := some 36) (Nj := some 8) #[true, true, true, true, true, true, false, false, false, false, false, false] #[true, true, true, true, true, false, false, false, false, true, false, false] rfl rfl rfl rfl (two_of HT_.out (by kernel_rfl)) (by decide) (by decide) (fun K hK => ?_) (fun K hK => ?_)
                      · skip
                        refine goes_ Try.func36 (by kernel_rfl) rfl #[.agg #[.slice Ao32 x343000_2.length co32], .agg #[.int .i64 ((rd_T65 l1 x7_2).f0), .string ((rd_T65 l1 x7_2).f1), .string ((rd_T65 l1 x7_2).f2), .string ((rd_T65 l1 x7_2).f3)]] (by rfl) rfl rfl t1_ ?_
                        with_reducible refine (spec_PutRaw.calls k2 _ _ x343000_2 ((rd_T65 l1 x7_2).f0) ((rd_T65 l1 x7_2).f1) ((rd_T65 l1 x7_2).f2) ((rd_T65 l1 x7_2).f3) t344 true _ ?side1 ?side2 A30.out).mono ?_
                        (case side1 => repeat (first | exact (Kd.R_reads' HO_343000.out).2.2 | (with_reducible refine Kd.C_alloc ?_ _) | (with_reducible refine Kd.C_drewN ?_ _) | (with_reducible refine Kd.C_drew ?_)))
                        (case side2 => exact (Kd.R_reads' HO_343000.out).2.1)
                        rintro e w34 ⟨v345, rfl, ho0, hb⟩
                        refine ⟨_, rfl, ?_⟩
                        have HO346 := Aside0.mk (Kd.R_lower (Kd.R_new' ho0 (Kd.R_lt t44_)) (below_size t17_))
                        replace HO_343000 := Aside0.mk (Kd.R_elder' t44_ (Kd.R_base ho0) hb)
                        replace BK333 := bkN BK333 hb
                        replace BK334 := bkN BK334 hb
                        replace BK342 := bkN BK342 hb
                        replace HB := Aside0.mk (below_step t17_ hb)
                        (try clear hb)
                        (try clear hb2)
                        (try clear hk)
                        (try clear hi)
                        (try clear ho0)
                        refine hK.out _ _ ⟨bc0 BK342, ((HB.out.cell (World.block_lt_of_cell? w _ hw343_0)).trans hw343_0), ((HB.out.cell (World.block_lt_of_cell? w _ hw343_1)).trans hw343_1), ((HB.out.cell (World.block_lt_of_cell? w _ hw343_2)).trans hw343_2), ((HB.out.cell (World.block_lt_of_cell? w _ hw343_3)).trans hw343_3)⟩ (fun hHeld => ?_)
                        clear hK K
                        refine norm_ (a' := ?_) ?_ ?_
                        rotate_left
                        · show Act.put _ (some 36) _ = _
                          simp only [Act.put, List.setIfInBounds_toArray, List.set_cons_zero, List.set_cons_succ, i64_w, i32_w]
                          rfl
                        refine pure_ (i := 6) (N := some 30) (v := ?_) (a' := ?_) #[true, true, true, true, true, true, true, false, false, false, false, false] rfl rfl (any_of HT_.out (by kernel_rfl)) (fun _ _ _ h => h) (Or.inl ⟨by rfl, ?_⟩) ?_ ?_
                        rotate_left
                        · intro w'
                          go_simp
                          with_reducible rfl
                        rotate_left
                        · simp only [Act.put, List.setIfInBounds_toArray, List.set_cons_zero, List.set_cons_succ, i64_w, i32_w]
                          rfl
                        refine pure_ (i := 7) (N := some 37) (v := ?_) (a' := ?_) #[true, true, true, true, true, true, true, true, false, false, false, false] rfl rfl (any_of HT_.out (by kernel_rfl)) (fun _ _ _ h => h) (Or.inl ⟨by rfl, ?_⟩) ?_ ?_
                        rotate_left
                        · intro w'
                          go_simp
                          with_reducible rfl
                        rotate_left
                        · simp only [Act.put, List.setIfInBounds_toArray, List.set_cons_zero, List.set_cons_succ, i64_w, i32_w]
                          rfl
                        refine pure_ (i := 8) (N := some 38) (v := ?_) (a' := ?_) #[true, true, true, true, true, true, true, true, true, false, false, false] rfl rfl (any_of HT_.out (by kernel_rfl)) (fun _ _ _ h => h) (Or.inl ⟨by rfl, ?_⟩) ?_ ?_
                        rotate_left
                        · intro w'
                          go_simp
                          with_reducible rfl
                        rotate_left
                        · simp only [Act.put, List.setIfInBounds_toArray, List.set_cons_zero, List.set_cons_succ, i64_w, i32_w]
                          rfl
                        refine one_ (i := 9) (N := some 8) #[true, true, true, true, true, true, true, true, true, true, false, false] rfl rfl (one_of HT_.out (by kernel_rfl)) (by decide) (fun K hK => ?_)
                        refine box_step ?hg (N := 8) ?hd (cs := #[.slice none 0 0]) (t := 30) ?hr ?_; (case hd => rfl); (case hg => rfl); (case hr => first | (go_simp; done) | (go_simp; rfl))
                        intro gb348 hg w35 hbox hb
                        replace HO_343000 := Aside0.mk (Kd.R_below t44_ hb)
                        replace HO346 := Aside0.mk (Kd.R_below (by (with_reducible repeat (first | apply Kd.R_alloc | apply Kd.R_drewN | apply Kd.R_drew)); exact HO346.out) hb)
                        have BK348 := Aside0.mk (hbox)
                        have GW348 := Aside0.mk ((t26_ : w.heap.size ≤ gb348))
                        have GE348 := Aside0.mk ((t26_ : w.heap.size ≤ gb348))
                        replace HB := Aside0.mk (below_step t17_ hb)
                        have NB333_348 := nbL BK333 hg
                        have NB348_333 := nbG BK333 hg
                        replace BK333 := bkN BK333 hb
                        have NB334_348 := nbL BK334 hg
                        have NB348_334 := nbG BK334 hg
                        replace BK334 := bkN BK334 hb
                        have NB342_348 := nbL BK342 hg
                        have NB348_342 := nbG BK342 hg
                        replace BK342 := bkN BK342 hb
                        clear hb hbox hg
                        refine hK.out _ _ ⟨bc0 BK342, ((HB.out.cell (World.block_lt_of_cell? w _ hw343_0)).trans hw343_0), ((HB.out.cell (World.block_lt_of_cell? w _ hw343_1)).trans hw343_1), ((HB.out.cell (World.block_lt_of_cell? w _ hw343_2)).trans hw343_2), ((HB.out.cell (World.block_lt_of_cell? w _ hw343_3)).trans hw343_3)⟩ (fun hHeld => ?_)
                        clear hK K
                        refine norm_ (a' := ?_) ?_ ?_
                        rotate_left
                        · show Act.put _ (some 8) _ = _
                          simp only [Act.put, List.setIfInBounds_toArray, List.set_cons_zero, List.set_cons_succ, i64_w, i32_w]
                          rfl
                        exact norm_ t79_ (hCont (v345, gb348) _ ⟨hHeld, (by (with_reducible repeat (first | apply Kd.R_alloc | apply Kd.R_drewN | apply Kd.R_drew)); exact Kd.R_mono HO346.out (fun _ hk => hk.2)), (by (with_reducible repeat (first | apply Kd.R_alloc | apply Kd.R_drewN | apply Kd.R_drew)); exact Kd.R_mono HO_343000.out (fun _ hk => hk.2)), t66_, t67_, t72_, t73_, GW348.out, GE348.out, NB333_348.out, NB348_333.out, NB334_348.out, NB348_334.out, NB342_348.out, NB348_342.out, t23_⟩)
                      · skip
                        refine box_step ?hg (N := 8) ?hd (cs := #[.slice none 0 0]) (t := 30) ?hr ?_; (case hd => rfl); (case hg => rfl); (case hr => first | (go_simp; done) | (go_simp; rfl))
                        intro gb348 hg w34 hbox hb
                        replace HO_343000 := Aside0.mk (Kd.R_below t44_ hb)
                        have BK348 := Aside0.mk (hbox)
                        have GW348 := Aside0.mk ((t26_ : w.heap.size ≤ gb348))
                        have GE348 := Aside0.mk ((t26_ : w.heap.size ≤ gb348))
                        replace HB := Aside0.mk (below_step t17_ hb)
                        have NB333_348 := nbL BK333 hg
                        have NB348_333 := nbG BK333 hg
                        replace BK333 := bkN BK333 hb
                        have NB334_348 := nbL BK334 hg
                        have NB348_334 := nbG BK334 hg
                        replace BK334 := bkN BK334 hb
                        have NB342_348 := nbL BK342 hg
                        have NB348_342 := nbG BK342 hg
                        replace BK342 := bkN BK342 hb
                        clear hb hbox hg
                        refine hK.out _ _ ⟨bc0 BK342, ((HB.out.cell (World.block_lt_of_cell? w _ hw343_0)).trans hw343_0), ((HB.out.cell (World.block_lt_of_cell? w _ hw343_1)).trans hw343_1), ((HB.out.cell (World.block_lt_of_cell? w _ hw343_2)).trans hw343_2), ((HB.out.cell (World.block_lt_of_cell? w _ hw343_3)).trans hw343_3)⟩ (fun hHeld => ?_)
                        clear hK K
                        refine norm_ (a' := ?_) ?_ ?_
                        rotate_left
                        · show Act.put _ (some 8) _ = _
                          simp only [Act.put, List.setIfInBounds_toArray, List.set_cons_zero, List.set_cons_succ, i64_w, i32_w]
                          rfl
                        refine one_ (i := 5) (N := some 36) #[true, true, true, true, true, true, false, false, false, true, false, false] rfl rfl (one_of HT_.out (by kernel_rfl)) (by decide) (fun K hK => ?_)
                        refine goes_ Try.func36 (by kernel_rfl) rfl #[.agg #[.slice Ao32 x343000_2.length co32], .agg #[.int .i64 ((rd_T65 l1 x7_2).f0), .string ((rd_T65 l1 x7_2).f1), .string ((rd_T65 l1 x7_2).f2), .string ((rd_T65 l1 x7_2).f3)]] (by rfl) rfl rfl t1_ ?_
                        with_reducible refine (spec_PutRaw.calls k2 _ _ x343000_2 ((rd_T65 l1 x7_2).f0) ((rd_T65 l1 x7_2).f1) ((rd_T65 l1 x7_2).f2) ((rd_T65 l1 x7_2).f3) t344 true _ ?side1 ?side2 A30.out).mono ?_
                        (case side1 => repeat (first | exact (Kd.R_reads' HO_343000.out).2.2 | (with_reducible refine Kd.C_alloc ?_ _) | (with_reducible refine Kd.C_drewN ?_ _) | (with_reducible refine Kd.C_drew ?_)))
                        (case side2 => exact (Kd.R_reads' HO_343000.out).2.1)
                        rintro e w35 ⟨v345, rfl, ho0, hb⟩
                        refine ⟨_, rfl, ?_⟩
                        have HO346 := Aside0.mk (Kd.R_lower (Kd.R_new' ho0 (Kd.R_lt t44_)) (below_size t23_))
                        replace HO_343000 := Aside0.mk (Kd.R_elder' t44_ (Kd.R_base ho0) hb)
                        replace BK333 := bkN BK333 hb
                        replace BK334 := bkN BK334 hb
                        replace BK342 := bkN BK342 hb
                        replace BK348 := bkN BK348 hb
                        replace HB := Aside0.mk (below_step t23_ hb)
                        (try clear hb)
                        (try clear hb2)
                        (try clear hk)
                        (try clear hi)
                        (try clear ho0)
                        refine hK.out _ _ ⟨bc0 BK342, ((HB.out.cell (World.block_lt_of_cell? w _ hw343_0)).trans hw343_0), ((HB.out.cell (World.block_lt_of_cell? w _ hw343_1)).trans hw343_1), ((HB.out.cell (World.block_lt_of_cell? w _ hw343_2)).trans hw343_2), ((HB.out.cell (World.block_lt_of_cell? w _ hw343_3)).trans hw343_3)⟩ (fun hHeld => ?_)
                        clear hK K
                        refine norm_ (a' := ?_) ?_ ?_
                        rotate_left
                        · show Act.put _ (some 36) _ = _
                          simp only [Act.put, List.setIfInBounds_toArray, List.set_cons_zero, List.set_cons_succ, i64_w, i32_w]
                          rfl
                        refine pure_ (i := 6) (N := some 30) (v := ?_) (a' := ?_) #[true, true, true, true, true, true, true, false, false, true, false, false] rfl rfl (any_of HT_.out (by kernel_rfl)) (fun _ _ _ h => h) (Or.inl ⟨by rfl, ?_⟩) ?_ ?_
                        rotate_left
                        · intro w'
                          go_simp
                          with_reducible rfl
                        rotate_left
                        · simp only [Act.put, List.setIfInBounds_toArray, List.set_cons_zero, List.set_cons_succ, i64_w, i32_w]
                          rfl
                        refine pure_ (i := 7) (N := some 37) (v := ?_) (a' := ?_) #[true, true, true, true, true, true, true, true, false, true, false, false] rfl rfl (any_of HT_.out (by kernel_rfl)) (fun _ _ _ h => h) (Or.inl ⟨by rfl, ?_⟩) ?_ ?_
                        rotate_left
                        · intro w'
                          go_simp
                          with_reducible rfl
                        rotate_left
                        · simp only [Act.put, List.setIfInBounds_toArray, List.set_cons_zero, List.set_cons_succ, i64_w, i32_w]
                          rfl
                        refine pure_ (i := 8) (N := some 38) (v := ?_) (a' := ?_) #[true, true, true, true, true, true, true, true, true, true, false, false] rfl rfl (any_of HT_.out (by kernel_rfl)) (fun _ _ _ h => h) (Or.inl ⟨by rfl, ?_⟩) ?_ ?_
                        rotate_left
                        · intro w'
                          go_simp
                          with_reducible rfl
                        rotate_left
                        · simp only [Act.put, List.setIfInBounds_toArray, List.set_cons_zero, List.set_cons_succ, i64_w, i32_w]
                          rfl
                        exact norm_ t79_ (hCont (v345, gb348) _ ⟨hHeld, (by (with_reducible repeat (first | apply Kd.R_alloc | apply Kd.R_drewN | apply Kd.R_drew)); exact Kd.R_mono HO346.out (fun _ hk => hk.2)), (by (with_reducible repeat (first | apply Kd.R_alloc | apply Kd.R_drewN | apply Kd.R_drew)); exact Kd.R_mono HO_343000.out (fun _ hk => hk.2)), t66_, t67_, t72_, t73_, GW348.out, GE348.out, NB333_348.out, NB348_333.out, NB334_348.out, NB348_334.out, NB342_348.out, NB348_342.out, t23_⟩)
                    rintro ⟨v345, gb348⟩ w36 ⟨hS_, h0_, h1_, h2_, h3_, h4_, h5_, h6_, h7_, h8_, h9_, h10_, h11_, h12_, h13_, h14_⟩
                    have n0_ : Aside0 (Kd.R k71 71 w36 w.heap.size (fun k_ => some k_ ≠ (.slice Ao32 x343000_2.length co32 : Value).ownBlock) v345 t344) := ⟨h0_⟩
                    have n1_ : Aside0 (Kd.R k71 71 w36 w.heap.size (fun k_ => some k_ ≠ (v345 : Value).ownBlock) (.slice Ao32 x343000_2.length co32) x343000_2) := ⟨h1_⟩
                    have n2_ : Aside0 (w36.heap[gb333]? = some (.cells #[.slice A0_0 l0_0.length c0_0] 30 (0, 0))) := ⟨h2_⟩
                    have n3_ : Aside0 (w36.heap[gb334]? = some (.cells #[.slice none 0 0] 30 (0, 0))) := ⟨h3_⟩
                    have n4_ : Aside0 (w36.heap[gb342]? = some (.cells #[.slice Ao32 x343000_2.length co32] 30 (0, 0))) := ⟨h4_⟩
                    have n5_ : Aside0 (w36.heap[gb348]? = some (.cells #[.slice none 0 0] 30 (0, 0))) := ⟨h5_⟩
                    have n6_ : Aside0 (w.heap.size ≤ gb348) := ⟨h6_⟩
                    have n7_ : Aside0 (w.heap.size ≤ gb348) := ⟨h7_⟩
                    have n8_ : Aside0 (gb333 ≠ gb348) := ⟨h8_⟩
                    have n9_ : Aside0 (gb348 ≠ gb333) := ⟨h9_⟩
                    have n10_ : Aside0 (gb334 ≠ gb348) := ⟨h10_⟩
                    have n11_ : Aside0 (gb348 ≠ gb334) := ⟨h11_⟩
                    have n12_ : Aside0 (gb342 ≠ gb348) := ⟨h12_⟩
                    have n13_ : Aside0 (gb348 ≠ gb342) := ⟨h13_⟩
                    have n14_ : Aside0 (Below w.heap.size w w36) := ⟨h14_⟩
                    clear HO_343000
                    clear BK333
                    clear BK334
                    clear BK342
                    clear HB
                    clear h0_ h1_ h2_ h3_ h4_ h5_ h6_ h7_ h8_ h9_ h10_ h11_ h12_ h13_ h14_
                    have HO346 := n0_
                    have HO_343000 := n1_
                    have BK333 := n2_
                    have BK334 := n3_
                    have BK342 := n4_
                    have BK348 := n5_
                    have GW348 := n6_
                    have GE348 := n7_
                    have NB333_348 := n8_
                    have NB348_333 := n9_
                    have NB334_348 := n10_
                    have NB348_334 := n11_
                    have NB342_348 := n12_
                    have NB348_342 := n13_
                    have HB := n14_
                    clear n0_ n1_ n2_ n3_ n4_ n5_ n6_ n7_ n8_ n9_ n10_ n11_ n12_ n13_ n14_
                    have hHeld : w36.cell? ⟨gb342, 0, none⟩ = some (.slice Ao32 x343000_2.length co32) ∧ w36.cell? (ad343.add ((x7_2).toNat * 4)) = some (.int .i64 ((rd_T65 l1 x7_2).f0)) ∧ w36.cell? ⟨(ad343.add ((x7_2).toNat * 4)).block, (ad343.add ((x7_2).toNat * 4)).off + 1, none⟩ = some (.string ((rd_T65 l1 x7_2).f1)) ∧ w36.cell? ⟨(ad343.add ((x7_2).toNat * 4)).block, (ad343.add ((x7_2).toNat * 4)).off + 2, none⟩ = some (.string ((rd_T65 l1 x7_2).f2)) ∧ w36.cell? ⟨(ad343.add ((x7_2).toNat * 4)).block, (ad343.add ((x7_2).toNat * 4)).off + 3, none⟩ = some (.string ((rd_T65 l1 x7_2).f3)) := hS_
                    obtain ⟨Ao37, co37, eo37⟩ := Kd.R_slice HO346.out
                    (first | subst eo37 | (injection eo37 with f1_ f2_ f3_; have f4_ := f1_.symm; have f5_ := f3_.symm; clear f1_ f2_ f3_; subst f4_; subst f5_))
                    refine norm_ (a' := ?_) ?_ ?_
                    rotate_left
                    · simp only [putAll, Act.put, List.setIfInBounds_toArray, List.set_cons_zero, List.set_cons_succ]
                      rfl
                    refine one_ (i := 10) (N := none) #[true, true, true, true, true, true, true, true, true, true, true, false] rfl rfl (one_of HT_.out (by kernel_rfl)) (by decide) (fun K hK => ?_)
                    have hs38 : w36.cell? ⟨gb348, 0, none⟩ = some (.slice none 0 0) := bc0 BK348
                    have hfs38 := bf BK348 0
                    have hns38_0 := NB333_348.out
                    have hns38_1 := NB334_348.out
                    have hns38_2 := NB342_348.out
                    have hms38_0 := NB348_333.out
                    have hms38_1 := NB348_334.out
                    have hms38_2 := NB348_342.out
                    refine skip_ (w1 := ?_) (by rfl) rfl ?_ ?_
                    rotate_left
                    · go_simp
                      rfl
                    refine hK.out _ _ ⟨((cell_far (p := ⟨gb348, _, none⟩) NB342_348.out _).trans (hHeld.1)), ((cell_far (p := ⟨gb348, _, none⟩) (by first | exact Nat.ne_of_lt (Nat.lt_of_lt_of_le (by have := World.block_lt_of_cell? _ _ hw343_0; first | rwa [add_block] at this | exact this) GW348.out) | (rw [add_block]; exact Nat.ne_of_lt (Nat.lt_of_lt_of_le (by have := World.block_lt_of_cell? _ _ hw343_0; first | rwa [add_block] at this | exact this) GW348.out)) | (show (Addr.add _ _).block ≠ _; rw [add_block]; exact Nat.ne_of_lt (Nat.lt_of_lt_of_le (by have := World.block_lt_of_cell? _ _ hw343_0; first | rwa [add_block] at this | exact this) GW348.out)) | (dsimp only; exact Nat.ne_of_lt (Nat.lt_of_lt_of_le (by have := World.block_lt_of_cell? _ _ hw343_0; first | rwa [add_block] at this | exact this) GW348.out))) _).trans (hHeld.2.1)), ((cell_far (p := ⟨gb348, _, none⟩) (by first | exact Nat.ne_of_lt (Nat.lt_of_lt_of_le (by have := World.block_lt_of_cell? _ _ hw343_1; first | rwa [add_block] at this | exact this) GW348.out) | (rw [add_block]; exact Nat.ne_of_lt (Nat.lt_of_lt_of_le (by have := World.block_lt_of_cell? _ _ hw343_1; first | rwa [add_block] at this | exact this) GW348.out)) | (show (Addr.add _ _).block ≠ _; rw [add_block]; exact Nat.ne_of_lt (Nat.lt_of_lt_of_le (by have := World.block_lt_of_cell? _ _ hw343_1; first | rwa [add_block] at this | exact this) GW348.out)) | (dsimp only; exact Nat.ne_of_lt (Nat.lt_of_lt_of_le (by have := World.block_lt_of_cell? _ _ hw343_1; first | rwa [add_block] at this | exact this) GW348.out))) _).trans (hHeld.2.2.1)), ((cell_far (p := ⟨gb348, _, none⟩) (by first | exact Nat.ne_of_lt (Nat.lt_of_lt_of_le (by have := World.block_lt_of_cell? _ _ hw343_2; first | rwa [add_block] at this | exact this) GW348.out) | (rw [add_block]; exact Nat.ne_of_lt (Nat.lt_of_lt_of_le (by have := World.block_lt_of_cell? _ _ hw343_2; first | rwa [add_block] at this | exact this) GW348.out)) | (show (Addr.add _ _).block ≠ _; rw [add_block]; exact Nat.ne_of_lt (Nat.lt_of_lt_of_le (by have := World.block_lt_of_cell? _ _ hw343_2; first | rwa [add_block] at this | exact this) GW348.out)) | (dsimp only; exact Nat.ne_of_lt (Nat.lt_of_lt_of_le (by have := World.block_lt_of_cell? _ _ hw343_2; first | rwa [add_block] at this | exact this) GW348.out))) _).trans (hHeld.2.2.2.1)), ((cell_far (p := ⟨gb348, _, none⟩) (by first | exact Nat.ne_of_lt (Nat.lt_of_lt_of_le (by have := World.block_lt_of_cell? _ _ hw343_3; first | rwa [add_block] at this | exact this) GW348.out) | (rw [add_block]; exact Nat.ne_of_lt (Nat.lt_of_lt_of_le (by have := World.block_lt_of_cell? _ _ hw343_3; first | rwa [add_block] at this | exact this) GW348.out)) | (show (Addr.add _ _).block ≠ _; rw [add_block]; exact Nat.ne_of_lt (Nat.lt_of_lt_of_le (by have := World.block_lt_of_cell? _ _ hw343_3; first | rwa [add_block] at this | exact this) GW348.out)) | (dsimp only; exact Nat.ne_of_lt (Nat.lt_of_lt_of_le (by have := World.block_lt_of_cell? _ _ hw343_3; first | rwa [add_block] at this | exact this) GW348.out))) _).trans (hHeld.2.2.2.2))⟩ (fun hHeld => ?_)
                    clear hK K
                    refine pure_ (i := 11) (N := some 9) (v := ?_) (a' := ?_) #[true, true, true, true, true, true, true, true, true, true, true, true] rfl rfl (any_of HT_.out (by kernel_rfl)) (fun _ _ _ h => h) (Or.inl ⟨by rfl, ?_⟩) ?_ ?_
                    rotate_left
                    · intro w'
                      go_simp
                      with_reducible rfl
                    rotate_left
                    · simp only [Act.put, List.setIfInBounds_toArray, List.set_cons_zero, List.set_cons_succ, i64_w, i32_w]
                      rfl
                    refine done_ (done_of HT_.out (by kernel_rfl)) ?_
                    have hnb39 := NB348_333.out
                    have hnc39 := NB333_348.out
                    have hnb40 := NB348_334.out
                    have hnc40 := NB334_348.out
                    have hnb41 := NB348_342.out
                    have hnc41 := NB342_348.out
                    have hcz42_0 := bc0 BK348
                    have hfz42_0 := bf BK348 0
                    have hnb43 := NB342_333.out
                    have hnc43 := NB333_342.out
                    have hnb44 := NB342_334.out
                    have hnc44 := NB334_342.out
                    have hcz45_0 := bc0 BK342
                    have hfz45_0 := bf BK342 0
                    try go_wp2
                    go_roundg k2
                    case measure => have := HJ2.out; have := HK2.out; omega
                    case rel => exact ⟨(wrap64 (x7_2 + 1)), (t344), (.slice Ao37 t344.length co37), t19_, H', ⟨by have := HJ2.out; have := HK2.out; omega⟩, ⟨by (with_reducible repeat (first | apply Kd.R_alloc | apply Kd.R_drewN | apply Kd.R_drew)); exact Kd.R_mono (Kd.R_far (p := ⟨gb342, 0, none⟩) (Kd.R_far (p := ⟨gb348, 0, none⟩) (Kd.R_types (Kd.R_types HO346.out BK348.out (by decide)) BK342.out (by decide)) (fun _ hk => hk.1.2) (.slice Ao37 t344.length co37)) (fun _ hk => hk.2) (.slice Ao37 t344.length co37)) (fun _ hk => trivial)⟩, ⟨by (with_reducible repeat (first | refine blk_drewN ?_ _ | refine blk_drew ?_ | refine blk_alloc ?_ _)); refine blk_far ?_ NB333_342.out _; (with_reducible repeat (first | refine blk_drewN ?_ _ | refine blk_drew ?_ | refine blk_alloc ?_ _)); refine blk_far ?_ NB333_348.out _; (with_reducible repeat (first | refine blk_drewN ?_ _ | refine blk_drew ?_ | refine blk_alloc ?_ _)); exact BK333.out⟩, ⟨by (with_reducible repeat (first | refine blk_drewN ?_ _ | refine blk_drew ?_ | refine blk_alloc ?_ _)); refine blk_far ?_ NB334_342.out _; (with_reducible repeat (first | refine blk_drewN ?_ _ | refine blk_drew ?_ | refine blk_alloc ?_ _)); refine blk_far ?_ NB334_348.out _; (with_reducible repeat (first | refine blk_drewN ?_ _ | refine blk_drew ?_ | refine blk_alloc ?_ _)); exact BK334.out⟩, ⟨by (with_reducible repeat (first | refine blk_drewN ?_ _ | refine blk_drew ?_ | refine blk_alloc ?_ _)); refine blk_put (cs := #[.slice Ao32 x343000_2.length co32]) ?_ 0 _ rfl; (with_reducible repeat (first | refine blk_drewN ?_ _ | refine blk_drew ?_ | refine blk_alloc ?_ _)); refine blk_far ?_ NB342_348.out _; (with_reducible repeat (first | refine blk_drewN ?_ _ | refine blk_drew ?_ | refine blk_alloc ?_ _)); exact BK342.out⟩, ⟨t23_⟩⟩
                  · replace c31 := Bool.eq_false_iff.mpr c31
                    subst c31
                    have H1 : (some (x343000_2, x7_2)) = some (r1, r2) := by rw [if_neg (show ¬ (false = true) by decide)] at H; exact H
                    clear H
                    have H := H1
                    clear H1
                    simp only [Option.some.injEq, Prod.mk.injEq] at H
                    obtain ⟨rfl, rfl⟩ := H
                    obtain ⟨Ao46, co46, eo46⟩ := Kd.R_slice HO_343000.out
                    subst eo46
                    try go_wp2
                    replace HO_343000 := Aside0.mk (Kd.R_drew HO_343000.out)
                    replace BK333 := Aside0.mk (blk_drew BK333.out)
                    replace BK334 := Aside0.mk (blk_drew BK334.out)
                    replace BK342 := Aside0.mk (blk_drew BK342.out)
                    replace HB := Aside0.mk (below_drew1 HB.out)
                    have p343 : 0 ≤ (x7_2 : Int) := of_decide_eq_true t7_
                    have q343 : x7_2 < (l1.length : Int) := of_decide_eq_true t7_
                    obtain ⟨ad343, e343, hx343_0, hx343_1, hx343_2, hx343_3⟩ := at_T65 HR1.out x7_2 p343 q343
                    have hw343_3 := hx343_3
                    have hw343_2 := hx343_2
                    have hw343_1 := hx343_1
                    have hw343_0 := hx343_0
                    cases e343
                    replace hx343_0 := (HB.out.cell (World.block_lt_of_cell? w _ hx343_0)).trans hx343_0
                    replace hx343_1 := (HB.out.cell (World.block_lt_of_cell? w _ hx343_1)).trans hx343_1
                    replace hx343_2 := (HB.out.cell (World.block_lt_of_cell? w _ hx343_2)).trans hx343_2
                    replace hx343_3 := (HB.out.cell (World.block_lt_of_cell? w _ hx343_3)).trans hx343_3
                    replace p343 := eq_true p343
                    replace q343 := eq_true q343
                    refine start_ (n := 12) (S := fun w' => w'.cell? ⟨gb342, 0, none⟩ = some (.slice Ao46 x343000_2.length co46) ∧ w'.cell? (ad343.add ((x7_2).toNat * 4)) = some (.int .i64 ((rd_T65 l1 x7_2).f0)) ∧ w'.cell? ⟨(ad343.add ((x7_2).toNat * 4)).block, (ad343.add ((x7_2).toNat * 4)).off + 1, none⟩ = some (.string ((rd_T65 l1 x7_2).f1)) ∧ w'.cell? ⟨(ad343.add ((x7_2).toNat * 4)).block, (ad343.add ((x7_2).toNat * 4)).off + 2, none⟩ = some (.string ((rd_T65 l1 x7_2).f2)) ∧ w'.cell? ⟨(ad343.add ((x7_2).toNat * 4)).block, (ad343.add ((x7_2).toNat * 4)).off + 3, none⟩ = some (.string ((rd_T65 l1 x7_2).f3))) (ds := []) #[false, false, false, false, false, false, false, false, false, false, false, false] (by kernel_rfl) rfl rfl ⟨bc0 BK342, ((HB.out.cell (World.block_lt_of_cell? w _ hw343_0)).trans hw343_0), ((HB.out.cell (World.block_lt_of_cell? w _ hw343_1)).trans hw343_1), ((HB.out.cell (World.block_lt_of_cell? w _ hw343_2)).trans hw343_2), ((HB.out.cell (World.block_lt_of_cell? w _ hw343_3)).trans hw343_3)⟩ (fun hHeld => ?_); refine with_tabW spec_PutRaws.tab7 spec_PutRaws.bits7 (fun HT_ HW_ => ?_)
                    generalize wr.drew = w47 at HO_343000 BK333 BK334 BK342 HB hx343_0 hx343_1 hx343_2 hx343_3 hHeld ⊢
                    refine pure_ (i := 1) (N := some 32) (v := ?_) (a' := ?_) #[false, true, false, false, false, false, false, false, false, false, false, false] rfl rfl (any_of HT_.out (by kernel_rfl)) (fun _ _ _ h => h) (Or.inl ⟨by rfl, ?_⟩) ?_ ?_
                    rotate_left
                    · intro w'
                      go_simp
                      with_reducible rfl
                    rotate_left
                    · simp only [Act.put, List.setIfInBounds_toArray, List.set_cons_zero, List.set_cons_succ, i64_w, i32_w]
                      rfl
                    refine pure_ (i := 2) (N := some 33) (v := ?_) (a' := ?_) #[false, true, true, false, false, false, false, false, false, false, false, false] rfl rfl (any_of HT_.out (by kernel_rfl)) (fun _ _ _ h => h) (Or.inl ⟨by rfl, ?_⟩) ?_ ?_
                    rotate_left
                    · intro w'
                      go_simp
                      with_reducible rfl
                    rotate_left
                    · simp only [Act.put, List.setIfInBounds_toArray, List.set_cons_zero, List.set_cons_succ, i64_w, i32_w]
                      rfl
                    refine pure_ (i := 3) (N := some 34) (v := ?_) (a' := ?_) #[false, true, true, true, false, false, false, false, false, false, false, false] rfl rfl (any_of HT_.out (by kernel_rfl)) (fun _ _ _ h => h) (Or.inl ⟨by rfl, ?_⟩) ?_ ?_
                    rotate_left
                    · intro w'
                      go_simp
                      with_reducible rfl
                    rotate_left
                    · simp only [Act.put, List.setIfInBounds_toArray, List.set_cons_zero, List.set_cons_succ, i64_w, i32_w]
                      rfl
                    refine take_ (i := 0) (N := some 31) (v := ?_) (a' := ?_) #[true, true, true, true, false, false, false, false, false, false, false, false] rfl rfl (take_ofW HT_.out HW_.out (by kernel_rfl)) (fun _ _ _ h => h) (Or.inl ⟨by rfl, ?_⟩) hHeld ?_ ?_
                    rotate_left
                    · rintro w' ⟨s0, s1, s2, s3, s4⟩
                      go_simp
                      with_reducible rfl
                    rotate_left
                    · simp only [Act.put, List.setIfInBounds_toArray, List.set_cons_zero, List.set_cons_succ, i64_w, i32_w]
                      rfl
                    refine take_ (i := 4) (N := some 35) (v := ?_) (a' := ?_) #[true, true, true, true, true, false, false, false, false, false, false, false] rfl rfl (take_ofW HT_.out HW_.out (by kernel_rfl)) (fun _ _ _ h => h) (Or.inl ⟨by rfl, ?_⟩) hHeld ?_ ?_
                    rotate_left
                    · rintro w' ⟨s0, s1, s2, s3, s4⟩
                      go_simp
                      with_reducible rfl
                    rotate_left
                    · simp only [Act.put, List.setIfInBounds_toArray, List.set_cons_zero, List.set_cons_succ, i64_w, i32_w]
                      rfl
                    refine join_ (σ := Value × Nat) 2 #[true, true, true, true, true, true, true, true, true, true, false, false] (fun s_ => [(36, .tuple #[.agg #[s_.1], .bool false]), (8, .pointer (some ⟨s_.2, 0, none⟩)), (30, .tuple #[.agg #[s_.1], .bool false]), (37, .agg #[s_.1]), (38, .bool false)]) (fun s_ w' => (w'.cell? ⟨gb342, 0, none⟩ = some (.slice Ao46 x343000_2.length co46) ∧ w'.cell? (ad343.add ((x7_2).toNat * 4)) = some (.int .i64 ((rd_T65 l1 x7_2).f0)) ∧ w'.cell? ⟨(ad343.add ((x7_2).toNat * 4)).block, (ad343.add ((x7_2).toNat * 4)).off + 1, none⟩ = some (.string ((rd_T65 l1 x7_2).f1)) ∧ w'.cell? ⟨(ad343.add ((x7_2).toNat * 4)).block, (ad343.add ((x7_2).toNat * 4)).off + 2, none⟩ = some (.string ((rd_T65 l1 x7_2).f2)) ∧ w'.cell? ⟨(ad343.add ((x7_2).toNat * 4)).block, (ad343.add ((x7_2).toNat * 4)).off + 3, none⟩ = some (.string ((rd_T65 l1 x7_2).f3))) ∧ (Kd.R k71 71 w' w.heap.size (fun k_ => some k_ ≠ (.slice Ao46 x343000_2.length co46 : Value).ownBlock) s_.1 t344) ∧ (Kd.R k71 71 w' w.heap.size (fun k_ => some k_ ≠ (s_.1 : Value).ownBlock) (.slice Ao46 x343000_2.length co46) x343000_2) ∧ (w'.heap[gb333]? = some (.cells #[.slice A0_0 l0_0.length c0_0] 30 (0, 0))) ∧ (w'.heap[gb334]? = some (.cells #[.slice none 0 0] 30 (0, 0))) ∧ (w'.heap[gb342]? = some (.cells #[.slice Ao46 x343000_2.length co46] 30 (0, 0))) ∧ (w'.heap[s_.2]? = some (.cells #[.slice none 0 0] 30 (0, 0))) ∧ (w.heap.size ≤ s_.2) ∧ (w.heap.size ≤ s_.2) ∧ (gb333 ≠ s_.2) ∧ (s_.2 ≠ gb333) ∧ (gb334 ≠ s_.2) ∧ (s_.2 ≠ gb334) ∧ (gb342 ≠ s_.2) ∧ (s_.2 ≠ gb342) ∧ (Below w.heap.size w w')) ?_ ?_
                    rotate_left
                    · intro hCont
                      refine two_ (i := 5) (j := 9) (Ni := some 36) (Nj := some 8) #[true, true, true, true, true, true, false, false, false, false, false, false] #[true, true, true, true, true, false, false, false, false, true, false, false] rfl rfl rfl rfl (two_of HT_.out (by kernel_rfl)) (by decide) (by decide) (fun K hK => ?_) (fun K hK => ?_)
                      · skip
                        refine goes_ Try.func36 (by kernel_rfl) rfl #[.agg #[.slice Ao46 x343000_2.length co46], .agg #[.int .i64 ((rd_T65 l1 x7_2).f0), .string ((rd_T65 l1 x7_2).f1), .string ((rd_T65 l1 x7_2).f2), .string ((rd_T65 l1 x7_2).f3)]] (by rfl) rfl rfl t1_ ?_
                        with_reducible refine (spec_PutRaw.calls k2 _ _ x343000_2 ((rd_T65 l1 x7_2).f0) ((rd_T65 l1 x7_2).f1) ((rd_T65 l1 x7_2).f2) ((rd_T65 l1 x7_2).f3) t344 false _ ?side1 ?side2 A30.out).mono ?_
                        (case side1 => repeat (first | exact (Kd.R_reads' HO_343000.out).2.2 | (with_reducible refine Kd.C_alloc ?_ _) | (with_reducible refine Kd.C_drewN ?_ _) | (with_reducible refine Kd.C_drew ?_)))
                        (case side2 => exact (Kd.R_reads' HO_343000.out).2.1)
                        rintro e w48 ⟨v345, rfl, ho0, hb⟩
                        refine ⟨_, rfl, ?_⟩
                        have HO346 := Aside0.mk (Kd.R_lower (Kd.R_new' ho0 (Kd.R_lt t44_)) (below_size t17_))
                        replace HO_343000 := Aside0.mk (Kd.R_elder' t44_ (Kd.R_base ho0) hb)
                        replace BK333 := bkN BK333 hb
                        replace BK334 := bkN BK334 hb
                        replace BK342 := bkN BK342 hb
                        replace HB := Aside0.mk (below_step t17_ hb)
                        (try clear hb)
                        (try clear hb2)
                        (try clear hk)
                        (try clear hi)
                        (try clear ho0)
                        refine hK.out _ _ ⟨bc0 BK342, ((HB.out.cell (World.block_lt_of_cell? w _ hw343_0)).trans hw343_0), ((HB.out.cell (World.block_lt_of_cell? w _ hw343_1)).trans hw343_1), ((HB.out.cell (World.block_lt_of_cell? w _ hw343_2)).trans hw343_2), ((HB.out.cell (World.block_lt_of_cell? w _ hw343_3)).trans hw343_3)⟩ (fun hHeld => ?_)
                        clear hK K
                        refine norm_ (a' := ?_) ?_ ?_
                        rotate_left
                        · show Act.put _ (some 36) _ = _
                          simp only [Act.put, List.setIfInBounds_toArray, List.set_cons_zero, List.set_cons_succ, i64_w, i32_w]
                          rfl
                        refine pure_ (i := 6) (N := some 30) (v := ?_) (a' := ?_) #[true, true, true, true, true, true, true, false, false, false, false, false] rfl rfl (any_of HT_.out (by kernel_rfl)) (fun _ _ _ h => h) (Or.inl ⟨by rfl, ?_⟩) ?_ ?_
                        rotate_left
                        · intro w'
                          go_simp
                          with_reducible rfl
                        rotate_left
                        · simp only [Act.put, List.setIfInBounds_toArray, List.set_cons_zero, List.set_cons_succ, i64_w, i32_w]
                          rfl
                        refine pure_ (i := 7) (N := some 37) (v := ?_) (a' := ?_) #[true, true, true, true, true, true, true, true, false, false, false, false] rfl rfl (any_of HT_.out (by kernel_rfl)) (fun _ _ _ h => h) (Or.inl ⟨by rfl, ?_⟩) ?_ ?_
                        rotate_left
                        · intro w'
                          go_simp
                          with_reducible rfl
                        rotate_left
                        · simp only [Act.put, List.setIfInBounds_toArray, List.set_cons_zero, List.set_cons_succ, i64_w, i32_w]
                          rfl
                        refine pure_ (i := 8) (N := some 38) (v := ?_) (a' := ?_) #[true, true, true, true, true, true, true, true, true, false, false, false] rfl rfl (any_of HT_.out (by kernel_rfl)) (fun _ _ _ h => h) (Or.inl ⟨by rfl, ?_⟩) ?_ ?_
                        rotate_left
                        · intro w'
                          go_simp
                          with_reducible rfl
                        rotate_left
                        · simp only [Act.put, List.setIfInBounds_toArray, List.set_cons_zero, List.set_cons_succ, i64_w, i32_w]
                          rfl
                        refine one_ (i := 9) (N := some 8) #[true, true, true, true, true, true, true, true, true, true, false, false] rfl rfl (one_of HT_.out (by kernel_rfl)) (by decide) (fun K hK => ?_)
                        refine box_step ?hg (N := 8) ?hd (cs := #[.slice none 0 0]) (t := 30) ?hr ?_; (case hd => rfl); (case hg => rfl); (case hr => first | (go_simp; done) | (go_simp; rfl))
                        intro gb348 hg w49 hbox hb
                        replace HO_343000 := Aside0.mk (Kd.R_below t44_ hb)
                        replace HO346 := Aside0.mk (Kd.R_below (by (with_reducible repeat (first | apply Kd.R_alloc | apply Kd.R_drewN | apply Kd.R_drew)); exact HO346.out) hb)
                        have BK348 := Aside0.mk (hbox)
                        have GW348 := Aside0.mk ((t26_ : w.heap.size ≤ gb348))
                        have GE348 := Aside0.mk ((t26_ : w.heap.size ≤ gb348))
                        replace HB := Aside0.mk (below_step t17_ hb)
                        have NB333_348 := nbL BK333 hg
                        have NB348_333 := nbG BK333 hg
                        replace BK333 := bkN BK333 hb
                        have NB334_348 := nbL BK334 hg
                        have NB348_334 := nbG BK334 hg
                        replace BK334 := bkN BK334 hb
                        have NB342_348 := nbL BK342 hg
                        have NB348_342 := nbG BK342 hg
                        replace BK342 := bkN BK342 hb
                        clear hb hbox hg
                        refine hK.out _ _ ⟨bc0 BK342, ((HB.out.cell (World.block_lt_of_cell? w _ hw343_0)).trans hw343_0), ((HB.out.cell (World.block_lt_of_cell? w _ hw343_1)).trans hw343_1), ((HB.out.cell (World.block_lt_of_cell? w _ hw343_2)).trans hw343_2), ((HB.out.cell (World.block_lt_of_cell? w _ hw343_3)).trans hw343_3)⟩ (fun hHeld => ?_)
                        clear hK K
                        refine norm_ (a' := ?_) ?_ ?_
                        rotate_left
                        · show Act.put _ (some 8) _ = _
                          simp only [Act.put, List.setIfInBounds_toArray, List.set_cons_zero, List.set_cons_succ, i64_w, i32_w]
                          rfl
                        exact norm_ t79_ (hCont (v345, gb348) _ ⟨hHeld, (by (with_reducible repeat (first | apply Kd.R_alloc | apply Kd.R_drewN | apply Kd.R_drew)); exact Kd.R_mono HO346.out (fun _ hk => hk.2)), (by (with_reducible repeat (first | apply Kd.R_alloc | apply Kd.R_drewN | apply Kd.R_drew)); exact Kd.R_mono HO_343000.out (fun _ hk => hk.2)), t66_, t67_, t72_, t73_, GW348.out, GE348.out, NB333_348.out, NB348_333.out, NB334_348.out, NB348_334.out, NB342_348.out, NB348_342.out, t23_⟩)
                      · skip
                        refine box_step ?hg (N := 8) ?hd (cs := #[.slice none 0 0]) (t := 30) ?hr ?_; (case hd => rfl); (case hg => rfl); (case hr => first | (go_simp; done) | (go_simp; rfl))
                        intro gb348 hg w48 hbox hb
                        replace HO_343000 := Aside0.mk (Kd.R_below t44_ hb)
                        have BK348 := Aside0.mk (hbox)
                        have GW348 := Aside0.mk ((t26_ : w.heap.size ≤ gb348))
                        have GE348 := Aside0.mk ((t26_ : w.heap.size ≤ gb348))
                        replace HB := Aside0.mk (below_step t17_ hb)
                        have NB333_348 := nbL BK333 hg
                        have NB348_333 := nbG BK333 hg
                        replace BK333 := bkN BK333 hb
                        have NB334_348 := nbL BK334 hg
                        have NB348_334 := nbG BK334 hg
                        replace BK334 := bkN BK334 hb
                        have NB342_348 := nbL BK342 hg
                        have NB348_342 := nbG BK342 hg
                        replace BK342 := bkN BK342 hb
                        clear hb hbox hg
                        refine hK.out _ _ ⟨bc0 BK342, ((HB.out.cell (World.block_lt_of_cell? w _ hw343_0)).trans hw343_0), ((HB.out.cell (World.block_lt_of_cell? w _ hw343_1)).trans hw343_1), ((HB.out.cell (World.block_lt_of_cell? w _ hw343_2)).trans hw343_2), ((HB.out.cell (World.block_lt_of_cell? w _ hw343_3)).trans hw343_3)⟩ (fun hHeld => ?_)
                        clear hK K
                        refine norm_ (a' := ?_) ?_ ?_
                        rotate_left
                        · show Act.put _ (some 8) _ = _
                          simp only [Act.put, List.setIfInBounds_toArray, List.set_cons_zero, List.set_cons_succ, i64_w, i32_w]
                          rfl
                        refine one_ (i := 5) (N := some 36) #[true, true, true, true, true, true, false, false, false, true, false, false] rfl rfl (one_of HT_.out (by kernel_rfl)) (by decide) (fun K hK => ?_)
                        refine goes_ Try.func36 (by kernel_rfl) rfl #[.agg #[.slice Ao46 x343000_2.length co46], .agg #[.int .i64 ((rd_T65 l1 x7_2).f0), .string ((rd_T65 l1 x7_2).f1), .string ((rd_T65 l1 x7_2).f2), .string ((rd_T65 l1 x7_2).f3)]] (by rfl) rfl rfl t1_ ?_
                        with_reducible refine (spec_PutRaw.calls k2 _ _ x343000_2 ((rd_T65 l1 x7_2).f0) ((rd_T65 l1 x7_2).f1) ((rd_T65 l1 x7_2).f2) ((rd_T65 l1 x7_2).f3) t344 false _ ?side1 ?side2 A30.out).mono ?_
                        (case side1 => repeat (first | exact (Kd.R_reads' HO_343000.out).2.2 | (with_reducible refine Kd.C_alloc ?_ _) | (with_reducible refine Kd.C_drewN ?_ _) | (with_reducible refine Kd.C_drew ?_)))
                        (case side2 => exact (Kd.R_reads' HO_343000.out).2.1)
                        rintro e w49 ⟨v345, rfl, ho0, hb⟩
                        refine ⟨_, rfl, ?_⟩
                        have HO346 := Aside0.mk (Kd.R_lower (Kd.R_new' ho0 (Kd.R_lt t44_)) (below_size t23_))
                        replace HO_343000 := Aside0.mk (Kd.R_elder' t44_ (Kd.R_base ho0) hb)
                        replace BK333 := bkN BK333 hb
                        replace BK334 := bkN BK334 hb
                        replace BK342 := bkN BK342 hb
                        replace BK348 := bkN BK348 hb
                        replace HB := Aside0.mk (below_step t23_ hb)
                        (try clear hb)
                        (try clear hb2)
                        (try clear hk)
                        (try clear hi)
                        (try clear ho0)
                        refine hK.out _ _ ⟨bc0 BK342, ((HB.out.cell (World.block_lt_of_cell? w _ hw343_0)).trans hw343_0), ((HB.out.cell (World.block_lt_of_cell? w _ hw343_1)).trans hw343_1), ((HB.out.cell (World.block_lt_of_cell? w _ hw343_2)).trans hw343_2), ((HB.out.cell (World.block_lt_of_cell? w _ hw343_3)).trans hw343_3)⟩ (fun hHeld => ?_)
                        clear hK K
                        refine norm_ (a' := ?_) ?_ ?_
                        rotate_left
                        · show Act.put _ (some 36) _ = _
                          simp only [Act.put, List.setIfInBounds_toArray, List.set_cons_zero, List.set_cons_succ, i64_w, i32_w]
                          rfl
                        refine pure_ (i := 6) (N := some 30) (v := ?_) (a' := ?_) #[true, true, true, true, true, true, true, false, false, true, false, false] rfl rfl (any_of HT_.out (by kernel_rfl)) (fun _ _ _ h => h) (Or.inl ⟨by rfl, ?_⟩) ?_ ?_
                        rotate_left
                        · intro w'
                          go_simp
                          with_reducible rfl
                        rotate_left
                        · simp only [Act.put, List.setIfInBounds_toArray, List.set_cons_zero, List.set_cons_succ, i64_w, i32_w]
                          rfl
                        refine pure_ (i := 7) (N := some 37) (v := ?_) (a' := ?_) #[true, true, true, true, true, true, true, true, false, true, false, false] rfl rfl (any_of HT_.out (by kernel_rfl)) (fun _ _ _ h => h) (Or.inl ⟨by rfl, ?_⟩) ?_ ?_
                        rotate_left
                        · intro w'
                          go_simp
                          with_reducible rfl
                        rotate_left
                        · simp only [Act.put, List.setIfInBounds_toArray, List.set_cons_zero, List.set_cons_succ, i64_w, i32_w]
                          rfl
                        refine pure_ (i := 8) (N := some 38) (v := ?_) (a' := ?_) #[true, true, true, true, true, true, true, true, true, true, false, false] rfl rfl (any_of HT_.out (by kernel_rfl)) (fun _ _ _ h => h) (Or.inl ⟨by rfl, ?_⟩) ?_ ?_
                        rotate_left
                        · intro w'
                          go_simp
                          with_reducible rfl
                        rotate_left
                        · simp only [Act.put, List.setIfInBounds_toArray, List.set_cons_zero, List.set_cons_succ, i64_w, i32_w]
                          rfl
                        exact norm_ t79_ (hCont (v345, gb348) _ ⟨hHeld, (by (with_reducible repeat (first | apply Kd.R_alloc | apply Kd.R_drewN | apply Kd.R_drew)); exact Kd.R_mono HO346.out (fun _ hk => hk.2)), (by (with_reducible repeat (first | apply Kd.R_alloc | apply Kd.R_drewN | apply Kd.R_drew)); exact Kd.R_mono HO_343000.out (fun _ hk => hk.2)), t66_, t67_, t72_, t73_, GW348.out, GE348.out, NB333_348.out, NB348_333.out, NB334_348.out, NB348_334.out, NB342_348.out, NB348_342.out, t23_⟩)
                    rintro ⟨v345, gb348⟩ w50 ⟨hS_, h0_, h1_, h2_, h3_, h4_, h5_, h6_, h7_, h8_, h9_, h10_, h11_, h12_, h13_, h14_⟩
                    have n0_ : Aside0 (Kd.R k71 71 w50 w.heap.size (fun k_ => some k_ ≠ (.slice Ao46 x343000_2.length co46 : Value).ownBlock) v345 t344) := ⟨h0_⟩
                    have n1_ : Aside0 (Kd.R k71 71 w50 w.heap.size (fun k_ => some k_ ≠ (v345 : Value).ownBlock) (.slice Ao46 x343000_2.length co46) x343000_2) := ⟨h1_⟩
                    have n2_ : Aside0 (w50.heap[gb333]? = some (.cells #[.slice A0_0 l0_0.length c0_0] 30 (0, 0))) := ⟨h2_⟩
                    have n3_ : Aside0 (w50.heap[gb334]? = some (.cells #[.slice none 0 0] 30 (0, 0))) := ⟨h3_⟩
                    have n4_ : Aside0 (w50.heap[gb342]? = some (.cells #[.slice Ao46 x343000_2.length co46] 30 (0, 0))) := ⟨h4_⟩
                    have n5_ : Aside0 (w50.heap[gb348]? = some (.cells #[.slice none 0 0] 30 (0, 0))) := ⟨h5_⟩
                    have n6_ : Aside0 (w.heap.size ≤ gb348) := ⟨h6_⟩
                    have n7_ : Aside0 (w.heap.size ≤ gb348) := ⟨h7_⟩
                    have n8_ : Aside0 (gb333 ≠ gb348) := ⟨h8_⟩
                    have n9_ : Aside0 (gb348 ≠ gb333) := ⟨h9_⟩
                    have n10_ : Aside0 (gb334 ≠ gb348) := ⟨h10_⟩
                    have n11_ : Aside0 (gb348 ≠ gb334) := ⟨h11_⟩
                    have n12_ : Aside0 (gb342 ≠ gb348) := ⟨h12_⟩
                    have n13_ : Aside0 (gb348 ≠ gb342) := ⟨h13_⟩
                    have n14_ : Aside0 (Below w.heap.size w w50) := ⟨h14_⟩
                    clear HO_343000
                    clear BK333
                    clear BK334
                    clear BK342
                    clear HB
                    clear h0_ h1_ h2_ h3_ h4_ h5_ h6_ h7_ h8_ h9_ h10_ h11_ h12_ h13_ h14_
                    have HO346 := n0_
                    have HO_343000 := n1_
                    have BK333 := n2_
                    have BK334 := n3_
                    have BK342 := n4_
                    have BK348 := n5_
                    have GW348 := n6_
                    have GE348 := n7_
                    have NB333_348 := n8_
                    have NB348_333 := n9_
                    have NB334_348 := n10_
                    have NB348_334 := n11_
                    have NB342_348 := n12_
                    have NB348_342 := n13_
                    have HB := n14_
                    clear n0_ n1_ n2_ n3_ n4_ n5_ n6_ n7_ n8_ n9_ n10_ n11_ n12_ n13_ n14_
                    have hHeld : w50.cell? ⟨gb342, 0, none⟩ = some (.slice Ao46 x343000_2.length co46) ∧ w50.cell? (ad343.add ((x7_2).toNat * 4)) = some (.int .i64 ((rd_T65 l1 x7_2).f0)) ∧ w50.cell? ⟨(ad343.add ((x7_2).toNat * 4)).block, (ad343.add ((x7_2).toNat * 4)).off + 1, none⟩ = some (.string ((rd_T65 l1 x7_2).f1)) ∧ w50.cell? ⟨(ad343.add ((x7_2).toNat * 4)).block, (ad343.add ((x7_2).toNat * 4)).off + 2, none⟩ = some (.string ((rd_T65 l1 x7_2).f2)) ∧ w50.cell? ⟨(ad343.add ((x7_2).toNat * 4)).block, (ad343.add ((x7_2).toNat * 4)).off + 3, none⟩ = some (.string ((rd_T65 l1 x7_2).f3)) := hS_
                    obtain ⟨Ao51, co51, eo51⟩ := Kd.R_slice HO346.out
                    (first | subst eo51 | (injection eo51 with f1_ f2_ f3_; have f4_ := f1_.symm; have f5_ := f3_.symm; clear f1_ f2_ f3_; subst f4_; subst f5_))
                    refine norm_ (a' := ?_) ?_ ?_
                    rotate_left
                    · simp only [putAll, Act.put, List.setIfInBounds_toArray, List.set_cons_zero, List.set_cons_succ]
                      rfl
                    refine one_ (i := 10) (N := none) #[true, true, true, true, true, true, true, true, true, true, true, false] rfl rfl (one_of HT_.out (by kernel_rfl)) (by decide) (fun K hK => ?_)
                    have hs52 : w50.cell? ⟨gb348, 0, none⟩ = some (.slice none 0 0) := bc0 BK348
                    have hfs52 := bf BK348 0
                    have hns52_0 := NB333_348.out
                    have hns52_1 := NB334_348.out
                    have hns52_2 := NB342_348.out
                    have hms52_0 := NB348_333.out
                    have hms52_1 := NB348_334.out
                    have hms52_2 := NB348_342.out
                    refine skip_ (w1 := ?_) (by rfl) rfl ?_ ?_
                    rotate_left
                    · go_simp
                      rfl
                    refine hK.out _ _ ⟨((cell_far (p := ⟨gb348, _, none⟩) NB342_348.out _).trans (hHeld.1)), ((cell_far (p := ⟨gb348, _, none⟩) (by first | exact Nat.ne_of_lt (Nat.lt_of_lt_of_le (by have := World.block_lt_of_cell? _ _ hw343_0; first | rwa [add_block] at this | exact this) GW348.out) | (rw [add_block]; exact Nat.ne_of_lt (Nat.lt_of_lt_of_le (by have := World.block_lt_of_cell? _ _ hw343_0; first | rwa [add_block] at this | exact this) GW348.out)) | (show (Addr.add _ _).block ≠ _; rw [add_block]; exact Nat.ne_of_lt (Nat.lt_of_lt_of_le (by have := World.block_lt_of_cell? _ _ hw343_0; first | rwa [add_block] at this | exact this) GW348.out)) | (dsimp only; exact Nat.ne_of_lt (Nat.lt_of_lt_of_le (by have := World.block_lt_of_cell? _ _ hw343_0; first | rwa [add_block] at this | exact this) GW348.out))) _).trans (hHeld.2.1)), ((cell_far (p := ⟨gb348, _, none⟩) (by first | exact Nat.ne_of_lt (Nat.lt_of_lt_of_le (by have := World.block_lt_of_cell? _ _ hw343_1; first | rwa [add_block] at this | exact this) GW348.out) | (rw [add_block]; exact Nat.ne_of_lt (Nat.lt_of_lt_of_le (by have := World.block_lt_of_cell? _ _ hw343_1; first | rwa [add_block] at this | exact this) GW348.out)) | (show (Addr.add _ _).block ≠ _; rw [add_block]; exact Nat.ne_of_lt (Nat.lt_of_lt_of_le (by have := World.block_lt_of_cell? _ _ hw343_1; first | rwa [add_block] at this | exact this) GW348.out)) | (dsimp only; exact Nat.ne_of_lt (Nat.lt_of_lt_of_le (by have := World.block_lt_of_cell? _ _ hw343_1; first | rwa [add_block] at this | exact this) GW348.out))) _).trans (hHeld.2.2.1)), ((cell_far (p := ⟨gb348, _, none⟩) (by first | exact Nat.ne_of_lt (Nat.lt_of_lt_of_le (by have := World.block_lt_of_cell? _ _ hw343_2; first | rwa [add_block] at this | exact this) GW348.out) | (rw [add_block]; exact Nat.ne_of_lt (Nat.lt_of_lt_of_le (by have := World.block_lt_of_cell? _ _ hw343_2; first | rwa [add_block] at this | exact this) GW348.out)) | (show (Addr.add _ _).block ≠ _; rw [add_block]; exact Nat.ne_of_lt (Nat.lt_of_lt_of_le (by have := World.block_lt_of_cell? _ _ hw343_2; first | rwa [add_block] at this | exact this) GW348.out)) | (dsimp only; exact Nat.ne_of_lt (Nat.lt_of_lt_of_le (by have := World.block_lt_of_cell? _ _ hw343_2; first | rwa [add_block] at this | exact this) GW348.out))) _).trans (hHeld.2.2.2.1)), ((cell_far (p := ⟨gb348, _, none⟩) (by first | exact Nat.ne_of_lt (Nat.lt_of_lt_of_le (by have := World.block_lt_of_cell? _ _ hw343_3; first | rwa [add_block] at this | exact this) GW348.out) | (rw [add_block]; exact Nat.ne_of_lt (Nat.lt_of_lt_of_le (by have := World.block_lt_of_cell? _ _ hw343_3; first | rwa [add_block] at this | exact this) GW348.out)) | (show (Addr.add _ _).block ≠ _; rw [add_block]; exact Nat.ne_of_lt (Nat.lt_of_lt_of_le (by have := World.block_lt_of_cell? _ _ hw343_3; first | rwa [add_block] at this | exact this) GW348.out)) | (dsimp only; exact Nat.ne_of_lt (Nat.lt_of_lt_of_le (by have := World.block_lt_of_cell? _ _ hw343_3; first | rwa [add_block] at this | exact this) GW348.out))) _).trans (hHeld.2.2.2.2))⟩ (fun hHeld => ?_)
                    clear hK K
                    refine pure_ (i := 11) (N := some 9) (v := ?_) (a' := ?_) #[true, true, true, true, true, true, true, true, true, true, true, true] rfl rfl (any_of HT_.out (by kernel_rfl)) (fun _ _ _ h => h) (Or.inl ⟨by rfl, ?_⟩) ?_ ?_
                    rotate_left
                    · intro w'
                      go_simp
                      with_reducible rfl
                    rotate_left
                    · simp only [Act.put, List.setIfInBounds_toArray, List.set_cons_zero, List.set_cons_succ, i64_w, i32_w]
                      rfl
                    refine done_ (done_of HT_.out (by kernel_rfl)) ?_
                    have hnb53 := NB342_333.out
                    have hnc53 := NB333_342.out
                    have hnb54 := NB342_334.out
                    have hnc54 := NB334_342.out
                    have hnb55 := NB342_348.out
                    have hnc55 := NB348_342.out
                    have hcz56_0 := bc0 BK342
                    have hfz56_0 := bf BK342 0
                    have hnb57 := NB334_333.out
                    have hnc57 := NB333_334.out
                    have hnb58 := NB334_348.out
                    have hnc58 := NB348_334.out
                    have hcz59_0 := bc0 BK334
                    have hfz59_0 := bf BK334 0
                    try go_wp2
                    refine bodyPost_ret (results_ct rfl _ _ gb334 30 #[.slice Ao46 x343000_2.length co46] (0, 0) _ rfl (by (with_reducible repeat (first | refine blk_drewN ?_ _ | refine blk_drew ?_ | refine blk_alloc ?_ _)); refine blk_put (cs := #[.slice none 0 0]) ?_ 0 _ rfl; (with_reducible repeat (first | refine blk_drewN ?_ _ | refine blk_drew ?_ | refine blk_alloc ?_ _)); refine blk_far ?_ NB334_348.out _; (with_reducible repeat (first | refine blk_drewN ?_ _ | refine blk_drew ?_ | refine blk_alloc ?_ _)); exact BK334.out) Try.underlying30 rfl (by kernel_rfl)) rfl ?_
                    exact ⟨_, by first | rfl | (simp [errW_none, errW_some] <;> rfl) | (simp [*, errW_none, errW_some] <;> rfl), by (with_reducible repeat (first | apply Kd.R_alloc | apply Kd.R_drewN | apply Kd.R_drew)); exact Kd.R_mono (Kd.R_far (p := ⟨gb334, 0, none⟩) (Kd.R_far (p := ⟨gb348, 0, none⟩) (Kd.R_types (Kd.R_types HO_343000.out BK348.out (by decide)) BK334.out (by decide)) (fun _ hk => hk.1.2) (.slice Ao51 t344.length co51)) (fun _ hk => hk.2) (.slice Ao46 x343000_2.length co46)) (fun _ hk => trivial), t23_⟩
                · rw [if_neg c29] at H
                  exact absurd H (by simp)
              · rw [if_neg c28] at H
                have c28b0 : decide (x7_2 < (l1.length : Int)) = false := decide_eq_false c28
                clear c28
                simp only [Option.some.injEq, Prod.mk.injEq] at H
                obtain ⟨rfl, rfl⟩ := H
                have hnb60 := NB342_333.out
                have hnc60 := NB333_342.out
                have hnb61 := NB342_334.out
                have hnc61 := NB334_342.out
                have hcz62_0 := bc0 BK342
                have hfz62_0 := bf BK342 0
                obtain ⟨Ao63, co63, eo63⟩ := Kd.R_slice HO_343000.out
                subst eo63
                have hnb64 := NB334_333.out
                have hnc64 := NB333_334.out
                have hcz65_0 := bc0 BK334
                have hfz65_0 := bf BK334 0
                go_wp2
                refine bodyPost_ret (results_ct rfl _ _ gb334 30 #[.slice Ao63 x343000_2.length co63] (0, 0) _ rfl (by (with_reducible repeat (first | refine blk_drewN ?_ _ | refine blk_drew ?_ | refine blk_alloc ?_ _)); refine blk_put (cs := #[.slice none 0 0]) ?_ 0 _ rfl; (with_reducible repeat (first | refine blk_drewN ?_ _ | refine blk_drew ?_ | refine blk_alloc ?_ _)); exact BK334.out) Try.underlying30 rfl (by kernel_rfl)) rfl ?_
                exact ⟨_, by first | rfl | (simp [errW_none, errW_some] <;> rfl) | (simp [*, errW_none, errW_some] <;> rfl), by (with_reducible repeat (first | apply Kd.R_alloc | apply Kd.R_drewN | apply Kd.R_drew)); exact Kd.R_mono (Kd.R_far (p := ⟨gb334, 0, none⟩) (Kd.R_types HO_343000.out BK334.out (by decide)) (fun _ hk => hk.2) (.slice Ao63 x343000_2.length co63)) (fun _ hk => trivial), t17_⟩
        · rw [if_neg c17] at H
          exact absurd H (by simp)

end Go.Proofs.Ytpjhbhjmaggheaa.QFnExactPutRaws
