-- By a program of this session, over the kit's print.
import Derived.Test.YtpjhbhjmaggheaaQFnRawsx0
import Derived.Test.YtpjhbhjmaggheaaQFnRawsx6
import Derived.Test.YtpjhbhjmaggheaaQFnRawsx9
namespace Go.Proofs.Ytpjhbhjmaggheaa.QFnRaws
open Go.RowKit Go.Proofs.YtpjhbhjmaggheaaW.PrintWords Go.Proofs.YtpjhbhjmaggheaaW.PrintLast Go.Proofs.YtpjhbhjmaggheaaW.PrintMore
attribute [local go_sem] max2_int min2_int max_two min_two max_three min_three max_four min_four   -- for this text's walks alone
set_option linter.unusedVariables false
set_option linter.unusedSimpArgs false

/-! ### spec_PutRaws: function 39 -/
mutual
def spec_PutRaws.j0 : Nat → List (S65) → Bool → List (S71) → Option ((List (S71)) × Int)
 | 0, _, _, _ => none
 | k + 1, x1, x17, x432000 => if x17 = true then (some (([] : List (S71)), 0)) else ((some (([] : List (S71)) : List (S71))).bind fun y434 => (if y434.length + x432000.length < 4398046511104 then (spec_PutRaws.l0 k x1 0 (y434 ++ x432000)) else (none)))
def spec_PutRaws.l0 : Nat → List (S65) → Int → List (S71) → Option ((List (S71)) × Int)
 | 0, _, _, _ => none
 | k + 1, x1, x7, x441000 => if x7 < (x1.length : Int) then (if 0 ≤ x7 then ((spec_PutRaw.f k x441000 ((rd_T65 x1 x7).f0) ((rd_T65 x1 x7).f1) ((rd_T65 x1 x7).f2) ((rd_T65 x1 x7).f3)).bind fun bt442 => (if bt442.2 = true then (spec_PutRaws.l0 k x1 (wrap64 (x7 + 1)) bt442.1) else (some (x441000, x7)))) else (none)) else (some (x441000, (x1.length : Int)))
end
def spec_PutRaws.f (k : Nat) (l0_0 : List (S71)) (l1 : List (S65)) : Option ((List (S71)) × Int) := (spec_DiskOk.f k l0_0).bind fun t433 => (if t433 = true then (spec_PutRaws.j0 k l1 (decide ((l1.length : Int) > 60)) l0_0) else (spec_PutRaws.j0 k l1 true l0_0))
theorem spec_PutRaws.mono_l : ∀ k, (∀ y0 y1 y2, LeO (spec_PutRaws.j0 k y0 y1 y2) (spec_PutRaws.j0 (k + 1) y0 y1 y2)) ∧ (∀ y0 y1 y2, LeO (spec_PutRaws.l0 k y0 y1 y2) (spec_PutRaws.l0 (k + 1) y0 y1 y2))
 | 0 => ⟨fun _ _ _ r h => by simp [spec_PutRaws.j0] at h, fun _ _ _ r h => by simp [spec_PutRaws.l0] at h⟩
 | k + 1 => by
  obtain ⟨ih0, ih1⟩ := spec_PutRaws.mono_l k; refine ⟨?_, ?_⟩
  · intro y0 y1 y2
    unfold spec_PutRaws.j0
    repeat' first
    | (with_reducible exact ih0 _ _ _)
    | (with_reducible exact ih1 _ _ _)
    | (with_reducible exact spec_DiskOk.mono _ _)
    | (with_reducible exact spec_PutRaw.mono _ _ _ _ _ _)
    | (with_reducible exact LeO.refl _)
    | (with_reducible exact LeO.none _)
    | (with_reducible refine LeO.ite ?_ ?_)
    | (with_reducible refine LeO.bind ?_ (fun _ => ?_))
    | exact ih0 _ _ _
    | exact ih1 _ _ _
    | exact spec_DiskOk.mono _ _
    | exact spec_PutRaw.mono _ _ _ _ _ _
    | exact LeO.none _
    | refine LeO.ite ?_ ?_
    | refine LeO.bind ?_ (fun _ => ?_)
  · intro y0 y1 y2
    unfold spec_PutRaws.l0
    repeat' first
    | (with_reducible exact ih0 _ _ _)
    | (with_reducible exact ih1 _ _ _)
    | (with_reducible exact spec_DiskOk.mono _ _)
    | (with_reducible exact spec_PutRaw.mono _ _ _ _ _ _)
    | (with_reducible exact LeO.refl _)
    | (with_reducible exact LeO.none _)
    | (with_reducible refine LeO.ite ?_ ?_)
    | (with_reducible refine LeO.bind ?_ (fun _ => ?_))
    | exact ih0 _ _ _
    | exact ih1 _ _ _
    | exact spec_DiskOk.mono _ _
    | exact spec_PutRaw.mono _ _ _ _ _ _
    | exact LeO.none _
    | refine LeO.ite ?_ ?_
    | refine LeO.bind ?_ (fun _ => ?_)
theorem spec_PutRaws.mono : ∀ a0 a1 k, LeO (spec_PutRaws.f k a0 a1) (spec_PutRaws.f (k + 1) a0 a1) := by
 intro a0 a1 k; obtain ⟨ih0, ih1⟩ := spec_PutRaws.mono_l k
 unfold spec_PutRaws.f
 repeat' first
  | (with_reducible exact ih0 _ _ _)
  | (with_reducible exact ih1 _ _ _)
  | (with_reducible exact spec_DiskOk.mono _ _)
  | (with_reducible exact spec_PutRaw.mono _ _ _ _ _ _)
  | (with_reducible exact LeO.refl _)
  | (with_reducible exact LeO.none _)
  | (with_reducible refine LeO.ite ?_ ?_)
  | (with_reducible refine LeO.bind ?_ (fun _ => ?_))
  | exact ih0 _ _ _
  | exact ih1 _ _ _
  | exact spec_DiskOk.mono _ _
  | exact spec_PutRaw.mono _ _ _ _ _ _
  | exact LeO.none _
  | refine LeO.ite ?_ ?_
  | refine LeO.bind ?_ (fun _ => ?_)
def spec_PutRaws.T7 : Bool × List (List Nat × List Nat) := (true, [([], []), ([], []), ([], []), ([1, 2], [1, 2]), ([3], [3]), ([0, 4], [0, 4]), ([5], [5]), ([6], [6]), ([6], [6]), ([], []), ([9, 7, 5, 0, 1, 2, 3, 4, 5, 6, 7, 9], [7, 9]), ([8, 10, 0, 1, 2, 3, 4, 5, 6, 7, 8, 9, 10], [8])])
def spec_PutRaws.B7 : List Nat := [0, 0, 0, 6, 14, 31, 63, 127, 127, 0, 767, 2047]
theorem spec_PutRaws.tab7 : rtab .any (opsOf Try.f39 7) = spec_PutRaws.T7 := by kernel_rfl
theorem spec_PutRaws.bits7 : waitsOk spec_PutRaws.T7.2 spec_PutRaws.B7 = true := by kernel_rfl
set_option maxHeartbeats 8000000 in
set_option maxRecDepth 100000 in
theorem spec_PutRaws.calls (k : Nat) (A0_0 : Option Addr) (c0_0 : Nat) (l0_0 : List (S71)) (A1 : Option Addr) (c1 : Nat) (l1 : List (S65)) (r1 : List (S71)) (r2 : Int) (w : World) (hr0_0 : Kd.C k71 w A0_0 l0_0.length l0_0) (hc0_0 : l0_0.length ≤ c0_0) (hr1 : Kd.C k65 w A1 l1.length l1) (hc1 : l1.length ≤ c1) (h : spec_PutRaws.f k l0_0 l1 = some (r1, r2)) :
 Calls Try.prog 39 #[.agg #[.slice A0_0 l0_0.length c0_0], .slice A1 l1.length c1] w fun e w' => ∃ v0_ : Value, e = .returned (.tuple #[.agg #[v0_], .int .i64 r2]) ∧ Kd.R k71 71 w' w.heap.size (fun _ => True) v0_ r1 ∧ Below w.heap.size w w' := by
 have hu30 := Try.underlying30; have hu65 := Try.underlying65; have HR0_0 := Aside0.mk hr0_0; have HC0_0 := Aside0.mk hc0_0; clear hr0_0 hc0_0; have HR1 := Aside0.mk hr1; have HC1 := Aside0.mk hc1; clear hr1 hc1; have HB := Aside0.mk (Below.refl w.heap.size w); have H : ((spec_DiskOk.f k l0_0).bind fun t433 => (if t433 = true then (spec_PutRaws.j0 k l1 (decide ((l1.length : Int) > 60)) l0_0) else (spec_PutRaws.j0 k l1 true l0_0))) = some (r1, r2) := h; clear h; have HC3 := Aside0.mk H; clear H; go_enter Try.func39, Try.ntmps39
 go_upto_region 1 with (first | ((with_reducible refine gate_dst (N := 2) rfl ?_); (try (refine gate_guard (by rfl) ?_; dsimp only)); refine boxE (N := 2) (cs := #[.slice A0_0 l0_0.length c0_0]) (t := 30) (h := ?_); intro gb431 hg w4 hbox hb; have BK431 := Aside0.mk (hbox); have GW431 := Aside0.mk ((t4_ : w.heap.size ≤ gb431)); have GE431 := GW431; replace HB := bS t1_ hb; clear hb hbox hg) | ((with_reducible refine gate_dst (N := 4) rfl ?_); (try (refine gate_guard (by rfl) ?_; dsimp only)); refine boxE (N := 4) (cs := #[.slice none 0 0]) (t := 30) (h := ?_); intro gb432 hg w5 hbox hb; have BK432 := Aside0.mk (hbox); have GW432 := Aside0.mk ((by rw [hg]; exact (below_size (by repeat (first | (with_reducible first | exact HB.out | apply below_alloc | apply pw_below_drewN | apply below_drew1 | refine below_set ?_ GE431.out) | exact HB.out))) : w.heap.size ≤ gb432)); have GE432 := Aside0.mk ((by rw [hg]; exact (below_size (by repeat (first | (with_reducible first | exact HB.out | apply below_alloc | apply pw_below_drewN | apply below_drew1 | refine below_set ?_ GE431.out) | exact HB.out))) : w.heap.size ≤ gb432)); replace HB := Aside0.mk (below_step (by repeat (first | (with_reducible first | exact HB.out | apply below_alloc | apply pw_below_drewN | apply below_drew1 | refine below_set ?_ GE431.out) | exact HB.out)) hb); have NB431_432 := nbL BK431 hg; have NB432_431 := nbG BK431 hg; replace BK431 := bkN BK431 hb; clear hb hbox hg))
 (try simp only [Act.put, List.setIfInBounds_toArray, List.set_cons_zero, List.set_cons_succ])
 go_cut [17] (fun v17 wc => ∃ (kq : Nat) (x17_2 : Bool), v17 = .bool x17_2 ∧ Aside0 (spec_PutRaws.j0 kq l1 x17_2 l0_0 = some (r1, r2)) ∧ Aside0 (kq ≤ k) ∧ Aside0 (wc.heap[gb431]? = some (.cells #[(.slice A0_0 l0_0.length c0_0)] 30 (0, 0))) ∧ Aside0 (wc.heap[gb432]? = some (.cells #[(.slice none 0 0)] 30 (0, 0))) ∧ Aside0 (Below w.heap.size w wc))
 case first =>
  have H := HC3.out; clear HC3; replace H := Option.bind_eq_some_iff.mp H; obtain ⟨t433, A60, H⟩ := H; replace H : (if t433 = true then (spec_PutRaws.j0 k l1 (decide ((l1.length : Int) > 60)) l0_0) else (spec_PutRaws.j0 k l1 true l0_0)) = some (r1, r2) := H; have A6 := Aside0.mk A60; clear A60; by_cases c7 : t433 = true
  · subst c7; have H1 : (spec_PutRaws.j0 k l1 (decide ((l1.length : Int) > 60)) l0_0) = some (r1, r2) := by rw [if_pos rfl] at H; exact H
    clear H; have H := H1; clear H1; have H' := Aside0.mk H; clear H; have hnb8 := NB431_432.out; have hnc8 := NB432_431.out; obtain ⟨hcz9_0, hfz9_0⟩ := ba1 BK431
    go_wp2_with (first | ((with_reducible refine gate_callee (f := 56) rfl ?_); refine goesL_ (some 11) rfl rfl Try.func56 (by kernel_rfl) rfl #[.agg #[.slice A0_0 l0_0.length c0_0]] rfl t0_ ?_; (with_reducible refine (spec_DiskOk.calls k _ _ l0_0 true _ ?side1 ?side2 A6.out).mono ?_); (case side1 => exact cB HR0_0 HB); (case side2 => exact HC0_0.out); rintro e w10 ⟨rfl, hb⟩; refine ⟨_, rfl, ?_⟩; replace BK431 := bkN BK431 hb; replace BK432 := bkN BK432 hb; replace HB := bS t36_ hb; (try clear hb)))
    go_meet
    case rel => exact ⟨_, (decide ((l1.length : Int) > 60)), t28_, H', ⟨by first | omega | exact Nat.le_refl _⟩, ⟨zN BK431⟩, ⟨zN BK432⟩, ⟨t36_⟩⟩
  · replace c7 := Bool.eq_false_iff.mpr c7; subst c7; have H1 : (spec_PutRaws.j0 k l1 true l0_0) = some (r1, r2) := by rw [if_neg (show ¬ (false = true) by decide)] at H; exact H
    clear H; have H := H1; clear H1; have H' := Aside0.mk H; clear H; have hnb11 := NB431_432.out; have hnc11 := NB432_431.out; obtain ⟨hcz12_0, hfz12_0⟩ := ba1 BK431
    go_wp2_with (first | ((with_reducible refine gate_callee (f := 56) rfl ?_); refine goesL_ (some 11) rfl rfl Try.func56 (by kernel_rfl) rfl #[.agg #[.slice A0_0 l0_0.length c0_0]] rfl t0_ ?_; (with_reducible refine (spec_DiskOk.calls k _ _ l0_0 false _ ?side1 ?side2 A6.out).mono ?_); (case side1 => exact cB HR0_0 HB); (case side2 => exact HC0_0.out); rintro e w13 ⟨rfl, hb⟩; refine ⟨_, rfl, ?_⟩; replace BK431 := bkN BK431 hb; replace BK432 := bkN BK432 hb; replace HB := bS t36_ hb; (try clear hb)))
    go_meet
    case rel => exact ⟨_, (true), t28_, H', ⟨by first | omega | exact Nat.le_refl _⟩, ⟨zN BK431⟩, ⟨zN BK432⟩, ⟨t36_⟩⟩
 case rest =>
  clear HC3
  try clear c1
  try clear p2
  try clear c3
  try clear c5
  try clear c7
  try clear c8
  try clear c11
  try clear hcz12_0
  try clear hcz9_0
  try clear hfz12_0
  try clear hfz9_0
  obtain ⟨kq, x17_2, rfl, HA, HJ2, BK431, BK432, HB⟩ := hcut
  cases kq with
  | zero => exact absurd HA.out (by simp [spec_PutRaws.j0])
  | succ kj2 =>
   have H := HA.out; clear HA; simp only [spec_PutRaws.j0] at H; by_cases c14 : x17_2 = true
   · subst c14; have H1 : (some (([] : List (S71)), 0)) = some (r1, r2) := by rw [if_pos rfl] at H; exact H
     clear H; have H := H1; clear H1; simp only [Option.some.injEq, Prod.mk.injEq] at H; obtain ⟨rfl, rfl⟩ := H; have hnb15 := NB432_431.out; have hnc15 := NB431_432.out; obtain ⟨hcz16_0, hfz16_0⟩ := ba1 BK432; go_wp2; refine bodyPost_ret (results_ct rfl _ _ gb432 30 #[.slice none 0 0] (0, 0) _ rfl (zP BK432) Try.underlying30 rfl (by kernel_rfl)) rfl ?_
     exact ⟨_, by first | rfl | (simp [errW_none, errW_some] <;> rfl) | (simp [*, errW_none, errW_some] <;> rfl), by first | exact Kd.R_nil _ _ _ _ _ | exact Kd.N_nil _ _ _ _ _ | exact Kd.V_nil _ _ _ _ _ | exact Kd.Q_nil _ _ _ _ _ | exact Kd.S_nil _ _ _ _ _, t36_⟩
   · replace c14 := Bool.eq_false_iff.mpr c14; subst c14; have H1 : ((some (([] : List (S71)) : List (S71))).bind fun y434 => (if y434.length + l0_0.length < 4398046511104 then (spec_PutRaws.l0 kj2 l1 0 (y434 ++ l0_0)) else (none))) = some (r1, r2) := by rw [if_neg (show ¬ (false = true) by decide)] at H; exact H
     clear H; have H := H1; clear H1; obtain ⟨y434, hy434⟩ : ∃ y_ : List (S71), y_ = (([] : List (S71))) := ⟨_, rfl⟩; replace H : (if y434.length + l0_0.length < 4398046511104 then (spec_PutRaws.l0 kj2 l1 0 (y434 ++ l0_0)) else (none)) = some (r1, r2) := by first | (rw [hy434]; with_reducible exact H) | (have H2_ := (Option.bind_some _ _).symm.trans H; rw [hy434]; with_reducible exact H2_) | (have H2_ := (Option.bind_some _ _).symm.trans H; with_reducible exact H2_) | with_reducible exact H | (rw [hy434]; exact H) | exact H
     have Ny434 := Aside0.mk hy434; clear hy434; by_cases c17 : y434.length + l0_0.length < 4398046511104
     · rw [if_pos c17] at H; have LMc17 := Aside0.mk c17; clear c17; obtain ⟨y437, hy437⟩ : ∃ y_ : List (S71), y_ = (y434 ++ l0_0) := ⟨_, rfl⟩; replace H : (spec_PutRaws.l0 kj2 l1 0 y437) = some (r1, r2) := by first | (rw [hy437]; with_reducible exact H) | (have H2_ := (Option.bind_some _ _).symm.trans H; rw [hy437]; with_reducible exact H2_) | (have H2_ := (Option.bind_some _ _).symm.trans H; with_reducible exact H2_) | with_reducible exact H | (rw [hy437]; exact H) | exact H
       have Ny437 := Aside0.mk hy437; clear hy437; have H' := Aside0.mk H; clear H
       go_wp2_with (first | ((with_reducible refine gate_dst (N := 19) rfl ?_); (try (refine gate_guard (by rfl) ?_; dsimp only)); refine Kd.R_lit k71 _ 71 ?hg (N := 19) ?hd (xs := ([] : List (S71))) (inner := []) (ok := fun _ => True) (okp := fun _ => True) ?hr ?hp (fun _ hk => hk) trivial (Below.refl _ _) (Nat.le_refl _) (by simp) ?_; (case hd => rfl); (case hg => rfl); (case hr => first | (go_simp; done) | (go_simp; rfl)); (case hp => exact (Reps.none _ _)); intro v435 w18 ho19 hb hg_ hnew_; clear hg_ hnew_; (first | rw [← Ny434.out] at ho19 | (simp only [Int.reduceToNat] at ho19; rw [← Ny434.out] at ho19)); have HO436 := Aside0.mk (Kd.R_lower ho19 (below_size t36_)); replace BK431 := bkN BK431 hb; replace BK432 := bkN BK432 hb; replace HB := bS t36_ hb; clear hb ho19; have hnb20 := NB431_432.out; have hnc20 := NB432_431.out; obtain ⟨hcz21_0, hfz21_0⟩ := ba1 BK431) | ((with_reducible refine gate_builtin (b := .append) (xs := #[.tmp 19, .tmp 21]) rfl ?_); (try (refine gate_guard (by rfl) ?_; dsimp only)); at_builtin; refine Kd.R_append_rows k71 (w0 := w) w.heap.size rfl (.tmp 19) (.tmp 21) 28 71 (.agg #[(.string ⟨#[]⟩), (.string ⟨#[]⟩)]) 32 rfl Try.underlying28 info71 rfl (by decide) (by omega) v435 y434 l0_0 _ _ _ (fun _ => True) (fun _ => False) rfl rfl ?aO ?aR (fun _ _ h => h) (fun _ h => h.elim) ?aF ?aB ?aS ?aL ?_; (case aR => exact cB HR0_0 HB); (case aB => exact t36_); (case aF => exact (fun _ _ => trivial)); (case aO => exact (zK HO436)); (case aS => exact (below_size t36_)); (case aL => have := LMc17.out; omega); intro v438 w22 ho hb hg hat; rw [← Ny437.out] at ho; have n0_ := Aside0.mk (blk_grown (g := gb431) (o := .cells #[.slice A0_0 l0_0.length c0_0] 30 (0, 0)) t103_ hg (Kd.R_ne HO436.out BK431.out (by decide))); have n1_ := Aside0.mk (blk_grown (g := gb432) (o := .cells #[.slice none 0 0] 30 (0, 0)) t104_ hg (Kd.R_ne HO436.out BK432.out (by decide))); have n2_ := Aside0.mk (hb); have n3_ := Aside0.mk (ho); clear BK431; clear BK432; clear HB; clear HO436; have BK431 := n0_; have BK432 := n1_; have HB := n2_; have HO439 := n3_; clear n0_ n1_ n2_ n3_; clear ho hb hg hat; obtain ⟨Ao23, co23, eo23⟩ := Kd.R_slice HO439.out; subst eo23) | ((with_reducible refine gate_dst (N := 6) rfl ?_); (try (refine gate_guard (by rfl) ?_; dsimp only)); refine boxE (N := 6) (cs := #[.slice none 0 0]) (t := 30) (h := ?_); intro gb440 hg w24 hbox hb; replace HO439 := Aside0.mk (Kd.R_below (zK HO439) hb); have BK440 := Aside0.mk (hbox); have GW440 := Aside0.mk ((by rw [hg]; exact (below_size t36_) : w.heap.size ≤ gb440)); have GE440 := Aside0.mk ((by rw [hg]; exact (below_size t36_) : w.heap.size ≤ gb440)); replace HB := bS t36_ hb; have NB431_440 := nbL BK431 hg; have NB440_431 := nbG BK431 hg; replace BK431 := bkN BK431 hb; have NB432_440 := nbL BK432 hg; have NB440_432 := nbG BK432 hg; replace BK432 := bkN BK432 hb; clear hb hbox hg; have hnb25 := NB440_431.out; have hnc25 := NB431_440.out; have hnb26 := NB440_432.out; have hnc26 := NB432_440.out; obtain ⟨hcz27_0, hfz27_0⟩ := ba1 BK440))
       go_loopg [7] kj2 (fun kq v7 w' => ∃ (x7_2 : Int) (x441000_2 : List (S71)) (u441000 : Value), v7 = .int .i64 x7_2 ∧ Aside0 (spec_PutRaws.l0 kq l1 x7_2 x441000_2 = some (r1, r2)) ∧ Aside0 (kq ≤ kj2) ∧ Aside0 (Kd.R k71 71 w' w.heap.size (fun _ => True) u441000 x441000_2) ∧ Aside0 (w'.heap[gb431]? = some (.cells #[(.slice A0_0 l0_0.length c0_0)] 30 (0, 0))) ∧ Aside0 (w'.heap[gb432]? = some (.cells #[(.slice none 0 0)] 30 (0, 0))) ∧ Aside0 (w'.heap[gb440]? = some (.cells #[u441000] 30 (0, 0))) ∧ Aside0 (Below w.heap.size w w'))
       case atStart => exact ⟨(0), (y437), (.slice Ao23 y437.length co23), t28_, H', ⟨Nat.le_refl _⟩, ⟨rG HO439 BK440⟩, ⟨zF1 BK431 NB431_440⟩, ⟨zF1 BK432 NB432_440⟩, ⟨zP BK440⟩, ⟨t20_⟩⟩
       case round =>
        clear H'
        try clear c1
        try clear c2
        try clear p2
        try clear c3
        try clear c5
        try clear c7
        try clear c8
        try clear c11
        try clear c14
        try clear c15
        try clear c17
        try clear c20
        try clear c25
        try clear c26
        try clear hcz12_0
        try clear hcz16_0
        try clear hcz21_0
        try clear hcz27_0
        try clear hcz9_0
        try clear hfz12_0
        try clear hfz16_0
        try clear hfz21_0
        try clear hfz27_0
        try clear hfz9_0
        try clear p2
        obtain ⟨x7_2, x441000_2, u441000, rfl, HA, HK2, HO_441000, BK431, BK432, BK440, HB⟩ := hrel
        cases gk with
        | zero => exact absurd HA.out (by simp [spec_PutRaws.l0])
        | succ k2 =>
         have H := HA.out; clear HA; simp only [spec_PutRaws.l0] at H; by_cases c28 : x7_2 < (l1.length : Int)
         · rw [if_pos c28] at H; have c28b0 : decide (x7_2 < (l1.length : Int)) = true := decide_eq_true c28; clear c28; by_cases c29 : 0 ≤ x7_2
           · rw [if_pos c29] at H; have c29b0 : decide (0 ≤ x7_2) = true := decide_eq_true c29; clear c29; replace H := Option.bind_eq_some_iff.mp H; obtain ⟨⟨t442, t445⟩, A300, H⟩ := H; replace H : (if t445 = true then (spec_PutRaws.l0 k2 l1 (wrap64 (x7_2 + 1)) t442) else (some (x441000_2, x7_2))) = some (r1, r2) := H; have A30 := Aside0.mk A300; clear A300; by_cases c31 : t445 = true
             · subst c31; have H1 : (spec_PutRaws.l0 k2 l1 (wrap64 (x7_2 + 1)) t442) = some (r1, r2) := by rw [if_pos rfl] at H; exact H
               clear H; have H := H1; clear H1; have H' := Aside0.mk H; clear H; obtain ⟨Ao32, co32, eo32⟩ := Kd.R_slice HO_441000.out; subst eo32
               try go_wp2
               replace HO_441000 := Aside0.mk (Kd.R_drew HO_441000.out); replace BK431 := Aside0.mk (blk_drew BK431.out); replace BK432 := Aside0.mk (blk_drew BK432.out); replace BK440 := Aside0.mk (blk_drew BK440.out); replace HB := Aside0.mk (below_drew1 HB.out); have p441 : 0 ≤ (x7_2 : Int) := of_decide_eq_true t8_; have q441 : x7_2 < (l1.length : Int) := of_decide_eq_true t8_; obtain ⟨ad441, e441, hx441_0, hx441_1, hx441_2, hx441_3⟩ := at_T65 HR1.out x7_2 p441 q441; have hw441_3 := hx441_3; have hw441_2 := hx441_2; have hw441_1 := hx441_1; have hw441_0 := hx441_0
               cases e441
               replace hx441_0 := cW HB hx441_0; replace hx441_1 := cW HB hx441_1; replace hx441_2 := cW HB hx441_2; replace hx441_3 := cW HB hx441_3; replace p441 := eq_true p441; replace q441 := eq_true q441; refine start_ (n := 12) (S := fun w' => w'.cell? ⟨gb440, 0, none⟩ = some (.slice Ao32 x441000_2.length co32) ∧ w'.cell? (ad441.add ((x7_2).toNat * 4)) = some (.int .i64 ((rd_T65 l1 x7_2).f0)) ∧ w'.cell? ⟨(ad441.add ((x7_2).toNat * 4)).block, (ad441.add ((x7_2).toNat * 4)).off + 1, none⟩ = some (.string ((rd_T65 l1 x7_2).f1)) ∧ w'.cell? ⟨(ad441.add ((x7_2).toNat * 4)).block, (ad441.add ((x7_2).toNat * 4)).off + 2, none⟩ = some (.string ((rd_T65 l1 x7_2).f2)) ∧ w'.cell? ⟨(ad441.add ((x7_2).toNat * 4)).block, (ad441.add ((x7_2).toNat * 4)).off + 3, none⟩ = some (.string ((rd_T65 l1 x7_2).f3))) (ds := []) #[false, false, false, false, false, false, false, false, false, false, false, false] (by kernel_rfl) rfl rfl ⟨bc0 BK440, ((HB.out.cell (World.block_lt_of_cell? w _ hw441_0)).trans hw441_0), ((HB.out.cell (World.block_lt_of_cell? w _ hw441_1)).trans hw441_1), ((HB.out.cell (World.block_lt_of_cell? w _ hw441_2)).trans hw441_2), ((HB.out.cell (World.block_lt_of_cell? w _ hw441_3)).trans hw441_3)⟩ (fun hHeld => ?_); refine with_tabW spec_PutRaws.tab7 spec_PutRaws.bits7 (fun HT_ HW_ => ?_)
               generalize wr.drew = w33 at HO_441000 BK431 BK432 BK440 HB hx441_0 hx441_1 hx441_2 hx441_3 hHeld ⊢; refine pure_ (i := 1) (N := some 32) (v := ?_) (a' := ?_) #[false, true, false, false, false, false, false, false, false, false, false, false] rfl rfl (any_of HT_.out (by kernel_rfl)) (fun _ _ _ h => h) (Or.inl ⟨by rfl, ?_⟩) ?_ ?_
               rotate_left
               · intro w'; go_simp; with_reducible rfl
               rotate_left
               · simp only [Act.put, ps1, ps2, ps3, i64_w, i32_w]; rfl
               refine pure_ (i := 2) (N := some 33) (v := ?_) (a' := ?_) #[false, true, true, false, false, false, false, false, false, false, false, false] rfl rfl (any_of HT_.out (by kernel_rfl)) (fun _ _ _ h => h) (Or.inl ⟨by rfl, ?_⟩) ?_ ?_
               rotate_left
               · intro w'; go_simp; with_reducible rfl
               rotate_left
               · simp only [Act.put, ps1, ps2, ps3, i64_w, i32_w]; rfl
               refine pure_ (i := 3) (N := some 34) (v := ?_) (a' := ?_) #[false, true, true, true, false, false, false, false, false, false, false, false] rfl rfl (any_of HT_.out (by kernel_rfl)) (fun _ _ _ h => h) (Or.inl ⟨by rfl, ?_⟩) ?_ ?_
               rotate_left
               · intro w'; go_simp; with_reducible rfl
               rotate_left
               · simp only [Act.put, ps1, ps2, ps3, i64_w, i32_w]; rfl
               refine take_ (i := 0) (N := some 31) (v := ?_) (a' := ?_) #[true, true, true, true, false, false, false, false, false, false, false, false] rfl rfl (take_ofW HT_.out HW_.out (by kernel_rfl)) (fun _ _ _ h => h) (Or.inl ⟨by rfl, ?_⟩) hHeld ?_ ?_
               rotate_left
               · rintro w' ⟨s0, s1, s2, s3, s4⟩; go_simp; with_reducible rfl
               rotate_left
               · simp only [Act.put, ps1, ps2, ps3, i64_w, i32_w]; rfl
               refine take_ (i := 4) (N := some 35) (v := ?_) (a' := ?_) #[true, true, true, true, true, false, false, false, false, false, false, false] rfl rfl (take_ofW HT_.out HW_.out (by kernel_rfl)) (fun _ _ _ h => h) (Or.inl ⟨by rfl, ?_⟩) hHeld ?_ ?_
               rotate_left
               · rintro w' ⟨s0, s1, s2, s3, s4⟩; go_simp; with_reducible rfl
               rotate_left
               · simp only [Act.put, ps1, ps2, ps3, i64_w, i32_w]; rfl
               refine join_ (σ := Value × Nat) 2 #[true, true, true, true, true, true, true, true, true, true, false, false] (fun s_ => [(36, .tuple #[.agg #[s_.1], .bool true]), (8, .pointer (some ⟨s_.2, 0, none⟩)), (30, .tuple #[.agg #[s_.1], .bool true]), (37, .agg #[s_.1]), (38, .bool true)]) (fun s_ w' => (w'.cell? ⟨gb440, 0, none⟩ = some (.slice Ao32 x441000_2.length co32) ∧ w'.cell? (ad441.add ((x7_2).toNat * 4)) = some (.int .i64 ((rd_T65 l1 x7_2).f0)) ∧ w'.cell? ⟨(ad441.add ((x7_2).toNat * 4)).block, (ad441.add ((x7_2).toNat * 4)).off + 1, none⟩ = some (.string ((rd_T65 l1 x7_2).f1)) ∧ w'.cell? ⟨(ad441.add ((x7_2).toNat * 4)).block, (ad441.add ((x7_2).toNat * 4)).off + 2, none⟩ = some (.string ((rd_T65 l1 x7_2).f2)) ∧ w'.cell? ⟨(ad441.add ((x7_2).toNat * 4)).block, (ad441.add ((x7_2).toNat * 4)).off + 3, none⟩ = some (.string ((rd_T65 l1 x7_2).f3))) ∧ (Kd.R k71 71 w' w.heap.size (fun k_ => some k_ ≠ (.slice Ao32 x441000_2.length co32 : Value).ownBlock) s_.1 t442) ∧ (Kd.R k71 71 w' w.heap.size (fun k_ => some k_ ≠ (s_.1 : Value).ownBlock) (.slice Ao32 x441000_2.length co32) x441000_2) ∧ (w'.heap[gb431]? = some (.cells #[.slice A0_0 l0_0.length c0_0] 30 (0, 0))) ∧ (w'.heap[gb432]? = some (.cells #[.slice none 0 0] 30 (0, 0))) ∧ (w'.heap[gb440]? = some (.cells #[.slice Ao32 x441000_2.length co32] 30 (0, 0))) ∧ (w'.heap[s_.2]? = some (.cells #[.slice none 0 0] 30 (0, 0))) ∧ (w.heap.size ≤ s_.2) ∧ (w.heap.size ≤ s_.2) ∧ (gb431 ≠ s_.2) ∧ (s_.2 ≠ gb431) ∧ (gb432 ≠ s_.2) ∧ (s_.2 ≠ gb432) ∧ (gb440 ≠ s_.2) ∧ (s_.2 ≠ gb440) ∧ (Below w.heap.size w w')) ?_ ?_
               rotate_left
               · intro hCont; refine two_ (i := 5) (j := 9) (Ni := some 36) (Nj := some 8) #[true, true, true, true, true, true, false, false, false, false, false, false] #[true, true, true, true, true, false, false, false, false, true, false, false] rfl rfl rfl rfl (two_of HT_.out (by kernel_rfl)) (by decide) (by decide) (fun K hK => ?_) (fun K hK => ?_)
                 · skip
                   refine goes_ Try.func36 (by kernel_rfl) rfl #[.agg #[.slice Ao32 x441000_2.length co32], .agg #[.int .i64 ((rd_T65 l1 x7_2).f0), .string ((rd_T65 l1 x7_2).f1), .string ((rd_T65 l1 x7_2).f2), .string ((rd_T65 l1 x7_2).f3)]] (by rfl) rfl rfl t0_ ?_
                   with_reducible refine (spec_PutRaw.calls k2 _ _ x441000_2 ((rd_T65 l1 x7_2).f0) ((rd_T65 l1 x7_2).f1) ((rd_T65 l1 x7_2).f2) ((rd_T65 l1 x7_2).f3) t442 true _ ?side1 ?side2 A30.out).mono ?_
                   (case side1 => repeat (first | exact (Kd.R_reads' HO_441000.out).2.2 | (with_reducible refine Kd.C_alloc ?_ _) | (with_reducible refine Kd.C_drewN ?_ _) | (with_reducible refine Kd.C_drew ?_)))
                   (case side2 => exact (Kd.R_reads' HO_441000.out).2.1)
                   rintro e w34 ⟨v443, rfl, ho0, hb⟩; refine ⟨_, rfl, ?_⟩
                   have HO444 := Aside0.mk (Kd.R_lower (Kd.R_new' ho0 (Kd.R_lt t67_)) (below_size t20_)); replace HO_441000 := Aside0.mk (Kd.R_elder' t67_ (Kd.R_base ho0) hb); replace BK431 := bkN BK431 hb; replace BK432 := bkN BK432 hb; replace BK440 := bkN BK440 hb; replace HB := bS t20_ hb
                   (try clear hb)
                   (try clear hb2)
                   (try clear hk)
                   (try clear hi)
                   (try clear ho0)
                   refine hK.out _ _ ⟨bc0 BK440, ((HB.out.cell (World.block_lt_of_cell? w _ hw441_0)).trans hw441_0), ((HB.out.cell (World.block_lt_of_cell? w _ hw441_1)).trans hw441_1), ((HB.out.cell (World.block_lt_of_cell? w _ hw441_2)).trans hw441_2), ((HB.out.cell (World.block_lt_of_cell? w _ hw441_3)).trans hw441_3)⟩ (fun hHeld => ?_)
                   clear hK K; refine norm_ (a' := ?_) ?_ ?_
                   rotate_left
                   · show Act.put _ (some 36) _ = _
                     simp only [Act.put, ps1, ps2, ps3, i64_w, i32_w]; rfl
                   refine pure_ (i := 6) (N := some 30) (v := ?_) (a' := ?_) #[true, true, true, true, true, true, true, false, false, false, false, false] rfl rfl (any_of HT_.out (by kernel_rfl)) (fun _ _ _ h => h) (Or.inl ⟨by rfl, ?_⟩) ?_ ?_
                   rotate_left
                   · intro w'; go_simp; with_reducible rfl
                   rotate_left
                   · simp only [Act.put, ps1, ps2, ps3, i64_w, i32_w]; rfl
                   refine pure_ (i := 7) (N := some 37) (v := ?_) (a' := ?_) #[true, true, true, true, true, true, true, true, false, false, false, false] rfl rfl (any_of HT_.out (by kernel_rfl)) (fun _ _ _ h => h) (Or.inl ⟨by rfl, ?_⟩) ?_ ?_
                   rotate_left
                   · intro w'; go_simp; with_reducible rfl
                   rotate_left
                   · simp only [Act.put, ps1, ps2, ps3, i64_w, i32_w]; rfl
                   refine pure_ (i := 8) (N := some 38) (v := ?_) (a' := ?_) #[true, true, true, true, true, true, true, true, true, false, false, false] rfl rfl (any_of HT_.out (by kernel_rfl)) (fun _ _ _ h => h) (Or.inl ⟨by rfl, ?_⟩) ?_ ?_
                   rotate_left
                   · intro w'; go_simp; with_reducible rfl
                   rotate_left
                   · simp only [Act.put, ps1, ps2, ps3, i64_w, i32_w]; rfl
                   refine one_ (i := 9) (N := some 8) #[true, true, true, true, true, true, true, true, true, true, false, false] rfl rfl (one_of HT_.out (by kernel_rfl)) (by decide) (fun K hK => ?_)
                   refine box_step ?hg (N := 8) ?hd (cs := #[.slice none 0 0]) (t := 30) ?hr ?_; (case hd => rfl); (case hg => rfl); (case hr => first | (go_simp; done) | (go_simp; rfl))
                   intro gb446 hg w35 hbox hb; replace HO_441000 := Aside0.mk (Kd.R_below t67_ hb); replace HO444 := Aside0.mk (Kd.R_below (zK HO444) hb); have BK446 := Aside0.mk (hbox); have GW446 := Aside0.mk ((t41_ : w.heap.size ≤ gb446)); have GE446 := GW446; replace HB := bS t20_ hb; have NB431_446 := nbL BK431 hg; have NB446_431 := nbG BK431 hg; replace BK431 := bkN BK431 hb; have NB432_446 := nbL BK432 hg; have NB446_432 := nbG BK432 hg; replace BK432 := bkN BK432 hb; have NB440_446 := nbL BK440 hg; have NB446_440 := nbG BK440 hg; replace BK440 := bkN BK440 hb; clear hb hbox hg; refine hK.out _ _ ⟨bc0 BK440, ((HB.out.cell (World.block_lt_of_cell? w _ hw441_0)).trans hw441_0), ((HB.out.cell (World.block_lt_of_cell? w _ hw441_1)).trans hw441_1), ((HB.out.cell (World.block_lt_of_cell? w _ hw441_2)).trans hw441_2), ((HB.out.cell (World.block_lt_of_cell? w _ hw441_3)).trans hw441_3)⟩ (fun hHeld => ?_)
                   clear hK K; refine norm_ (a' := ?_) ?_ ?_
                   rotate_left
                   · show Act.put _ (some 8) _ = _
                     simp only [Act.put, ps1, ps2, ps3, i64_w, i32_w]; rfl
                   exact norm_ t94_ (hCont (v443, gb446) _ ⟨hHeld, (by (with_reducible repeat (first | apply Kd.R_alloc | apply Kd.R_drewN | apply Kd.R_drew)); exact Kd.R_mono HO444.out (fun _ hk => hk.2)), (by (with_reducible repeat (first | apply Kd.R_alloc | apply Kd.R_drewN | apply Kd.R_drew)); exact Kd.R_mono HO_441000.out (fun _ hk => hk.2)), t103_, t104_, t108_, t109_, GW446.out, GE446.out, NB431_446.out, NB446_431.out, NB432_446.out, NB446_432.out, NB440_446.out, NB446_440.out, t34_⟩)
                 · skip
                   refine box_step ?hg (N := 8) ?hd (cs := #[.slice none 0 0]) (t := 30) ?hr ?_; (case hd => rfl); (case hg => rfl); (case hr => first | (go_simp; done) | (go_simp; rfl))
                   intro gb446 hg w34 hbox hb; replace HO_441000 := Aside0.mk (Kd.R_below t67_ hb); have BK446 := Aside0.mk (hbox); have GW446 := Aside0.mk ((t41_ : w.heap.size ≤ gb446)); have GE446 := GW446; replace HB := bS t20_ hb; have NB431_446 := nbL BK431 hg; have NB446_431 := nbG BK431 hg; replace BK431 := bkN BK431 hb; have NB432_446 := nbL BK432 hg; have NB446_432 := nbG BK432 hg; replace BK432 := bkN BK432 hb; have NB440_446 := nbL BK440 hg; have NB446_440 := nbG BK440 hg; replace BK440 := bkN BK440 hb; clear hb hbox hg; refine hK.out _ _ ⟨bc0 BK440, ((HB.out.cell (World.block_lt_of_cell? w _ hw441_0)).trans hw441_0), ((HB.out.cell (World.block_lt_of_cell? w _ hw441_1)).trans hw441_1), ((HB.out.cell (World.block_lt_of_cell? w _ hw441_2)).trans hw441_2), ((HB.out.cell (World.block_lt_of_cell? w _ hw441_3)).trans hw441_3)⟩ (fun hHeld => ?_)
                   clear hK K; refine norm_ (a' := ?_) ?_ ?_
                   rotate_left
                   · show Act.put _ (some 8) _ = _
                     simp only [Act.put, ps1, ps2, ps3, i64_w, i32_w]; rfl
                   refine one_ (i := 5) (N := some 36) #[true, true, true, true, true, true, false, false, false, true, false, false] rfl rfl (one_of HT_.out (by kernel_rfl)) (by decide) (fun K hK => ?_)
                   refine goes_ Try.func36 (by kernel_rfl) rfl #[.agg #[.slice Ao32 x441000_2.length co32], .agg #[.int .i64 ((rd_T65 l1 x7_2).f0), .string ((rd_T65 l1 x7_2).f1), .string ((rd_T65 l1 x7_2).f2), .string ((rd_T65 l1 x7_2).f3)]] (by rfl) rfl rfl t0_ ?_
                   with_reducible refine (spec_PutRaw.calls k2 _ _ x441000_2 ((rd_T65 l1 x7_2).f0) ((rd_T65 l1 x7_2).f1) ((rd_T65 l1 x7_2).f2) ((rd_T65 l1 x7_2).f3) t442 true _ ?side1 ?side2 A30.out).mono ?_
                   (case side1 => repeat (first | exact (Kd.R_reads' HO_441000.out).2.2 | (with_reducible refine Kd.C_alloc ?_ _) | (with_reducible refine Kd.C_drewN ?_ _) | (with_reducible refine Kd.C_drew ?_)))
                   (case side2 => exact (Kd.R_reads' HO_441000.out).2.1)
                   rintro e w35 ⟨v443, rfl, ho0, hb⟩; refine ⟨_, rfl, ?_⟩
                   have HO444 := Aside0.mk (Kd.R_lower (Kd.R_new' ho0 (Kd.R_lt t67_)) (below_size t34_)); replace HO_441000 := Aside0.mk (Kd.R_elder' t67_ (Kd.R_base ho0) hb); replace BK431 := bkN BK431 hb; replace BK432 := bkN BK432 hb; replace BK440 := bkN BK440 hb; replace BK446 := bkN BK446 hb; replace HB := bS t34_ hb
                   (try clear hb)
                   (try clear hb2)
                   (try clear hk)
                   (try clear hi)
                   (try clear ho0)
                   refine hK.out _ _ ⟨bc0 BK440, ((HB.out.cell (World.block_lt_of_cell? w _ hw441_0)).trans hw441_0), ((HB.out.cell (World.block_lt_of_cell? w _ hw441_1)).trans hw441_1), ((HB.out.cell (World.block_lt_of_cell? w _ hw441_2)).trans hw441_2), ((HB.out.cell (World.block_lt_of_cell? w _ hw441_3)).trans hw441_3)⟩ (fun hHeld => ?_)
                   clear hK K; refine norm_ (a' := ?_) ?_ ?_
                   rotate_left
                   · show Act.put _ (some 36) _ = _
                     simp only [Act.put, ps1, ps2, ps3, i64_w, i32_w]; rfl
                   refine pure_ (i := 6) (N := some 30) (v := ?_) (a' := ?_) #[true, true, true, true, true, true, true, false, false, true, false, false] rfl rfl (any_of HT_.out (by kernel_rfl)) (fun _ _ _ h => h) (Or.inl ⟨by rfl, ?_⟩) ?_ ?_
                   rotate_left
                   · intro w'; go_simp; with_reducible rfl
                   rotate_left
                   · simp only [Act.put, ps1, ps2, ps3, i64_w, i32_w]; rfl
                   refine pure_ (i := 7) (N := some 37) (v := ?_) (a' := ?_) #[true, true, true, true, true, true, true, true, false, true, false, false] rfl rfl (any_of HT_.out (by kernel_rfl)) (fun _ _ _ h => h) (Or.inl ⟨by rfl, ?_⟩) ?_ ?_
                   rotate_left
                   · intro w'; go_simp; with_reducible rfl
                   rotate_left
                   · simp only [Act.put, ps1, ps2, ps3, i64_w, i32_w]; rfl
                   refine pure_ (i := 8) (N := some 38) (v := ?_) (a' := ?_) #[true, true, true, true, true, true, true, true, true, true, false, false] rfl rfl (any_of HT_.out (by kernel_rfl)) (fun _ _ _ h => h) (Or.inl ⟨by rfl, ?_⟩) ?_ ?_
                   rotate_left
                   · intro w'; go_simp; with_reducible rfl
                   rotate_left
                   · simp only [Act.put, ps1, ps2, ps3, i64_w, i32_w]; rfl
                   exact norm_ t94_ (hCont (v443, gb446) _ ⟨hHeld, (by (with_reducible repeat (first | apply Kd.R_alloc | apply Kd.R_drewN | apply Kd.R_drew)); exact Kd.R_mono HO444.out (fun _ hk => hk.2)), (by (with_reducible repeat (first | apply Kd.R_alloc | apply Kd.R_drewN | apply Kd.R_drew)); exact Kd.R_mono HO_441000.out (fun _ hk => hk.2)), t103_, t104_, t108_, t109_, GW446.out, GE446.out, NB431_446.out, NB446_431.out, NB432_446.out, NB446_432.out, NB440_446.out, NB446_440.out, t34_⟩)
               rintro ⟨v443, gb446⟩ w36 ⟨hS_, h0_, h1_, h2_, h3_, h4_, h5_, h6_, h7_, h8_, h9_, h10_, h11_, h12_, h13_, h14_⟩; have n0_ : Aside0 (Kd.R k71 71 w36 w.heap.size (fun k_ => some k_ ≠ (.slice Ao32 x441000_2.length co32 : Value).ownBlock) v443 t442) := ⟨h0_⟩; have n1_ : Aside0 (Kd.R k71 71 w36 w.heap.size (fun k_ => some k_ ≠ (v443 : Value).ownBlock) (.slice Ao32 x441000_2.length co32) x441000_2) := ⟨h1_⟩; have n2_ : Aside0 (w36.heap[gb431]? = some (.cells #[.slice A0_0 l0_0.length c0_0] 30 (0, 0))) := ⟨h2_⟩; have n3_ : Aside0 (w36.heap[gb432]? = some (.cells #[.slice none 0 0] 30 (0, 0))) := ⟨h3_⟩; have n4_ : Aside0 (w36.heap[gb440]? = some (.cells #[.slice Ao32 x441000_2.length co32] 30 (0, 0))) := ⟨h4_⟩; have n5_ : Aside0 (w36.heap[gb446]? = some (.cells #[.slice none 0 0] 30 (0, 0))) := ⟨h5_⟩; have n6_ : Aside0 (w.heap.size ≤ gb446) := ⟨h6_⟩; have n7_ : Aside0 (w.heap.size ≤ gb446) := ⟨h7_⟩; have n8_ : Aside0 (gb431 ≠ gb446) := ⟨h8_⟩; have n9_ : Aside0 (gb446 ≠ gb431) := ⟨h9_⟩; have n10_ : Aside0 (gb432 ≠ gb446) := ⟨h10_⟩; have n11_ : Aside0 (gb446 ≠ gb432) := ⟨h11_⟩; have n12_ : Aside0 (gb440 ≠ gb446) := ⟨h12_⟩; have n13_ : Aside0 (gb446 ≠ gb440) := ⟨h13_⟩; have n14_ : Aside0 (Below w.heap.size w w36) := ⟨h14_⟩; clear HO_441000; clear BK431; clear BK432; clear BK440; clear HB; clear h0_ h1_ h2_ h3_ h4_ h5_ h6_ h7_ h8_ h9_ h10_ h11_ h12_ h13_ h14_; have HO444 := n0_; have HO_441000 := n1_; have BK431 := n2_; have BK432 := n3_; have BK440 := n4_; have BK446 := n5_; have GW446 := n6_; have GE446 := n7_; have NB431_446 := n8_; have NB446_431 := n9_; have NB432_446 := n10_; have NB446_432 := n11_; have NB440_446 := n12_; have NB446_440 := n13_; have HB := n14_; clear n0_ n1_ n2_ n3_ n4_ n5_ n6_ n7_ n8_ n9_ n10_ n11_ n12_ n13_ n14_; have hHeld : w36.cell? ⟨gb440, 0, none⟩ = some (.slice Ao32 x441000_2.length co32) ∧ w36.cell? (ad441.add ((x7_2).toNat * 4)) = some (.int .i64 ((rd_T65 l1 x7_2).f0)) ∧ w36.cell? ⟨(ad441.add ((x7_2).toNat * 4)).block, (ad441.add ((x7_2).toNat * 4)).off + 1, none⟩ = some (.string ((rd_T65 l1 x7_2).f1)) ∧ w36.cell? ⟨(ad441.add ((x7_2).toNat * 4)).block, (ad441.add ((x7_2).toNat * 4)).off + 2, none⟩ = some (.string ((rd_T65 l1 x7_2).f2)) ∧ w36.cell? ⟨(ad441.add ((x7_2).toNat * 4)).block, (ad441.add ((x7_2).toNat * 4)).off + 3, none⟩ = some (.string ((rd_T65 l1 x7_2).f3)) := hS_; obtain ⟨Ao37, co37, eo37⟩ := Kd.R_slice HO444.out
               (first | subst eo37 | (injection eo37 with f1_ f2_ f3_; have f4_ := f1_.symm; have f5_ := f3_.symm; clear f1_ f2_ f3_; subst f4_; subst f5_))
               refine norm_ (a' := ?_) ?_ ?_
               rotate_left
               · simp only [putAll, Act.put, List.setIfInBounds_toArray, List.set_cons_zero, List.set_cons_succ]; rfl
               refine one_ (i := 10) (N := none) #[true, true, true, true, true, true, true, true, true, true, true, false] rfl rfl (one_of HT_.out (by kernel_rfl)) (by decide) (fun K hK => ?_)
               have hs38 : w36.cell? ⟨gb446, 0, none⟩ = some (.slice none 0 0) := bc0 BK446; have hfs38 := bf BK446 0; have hns38_0 := NB431_446.out; have hns38_1 := NB432_446.out; have hns38_2 := NB440_446.out; have hms38_0 := NB446_431.out; have hms38_1 := NB446_432.out; have hms38_2 := NB446_440.out; refine skip_ (w1 := ?_) (by rfl) rfl ?_ ?_
               rotate_left
               · go_simp; rfl
               refine hK.out _ _ ⟨((cell_far (p := ⟨gb446, _, none⟩) NB440_446.out _).trans (hHeld.1)), ((cell_far (p := ⟨gb446, _, none⟩) (by first | exact Nat.ne_of_lt (Nat.lt_of_lt_of_le (by have := World.block_lt_of_cell? _ _ hw441_0; first | rwa [add_block] at this | exact this) GW446.out) | (rw [add_block]; exact Nat.ne_of_lt (Nat.lt_of_lt_of_le (by have := World.block_lt_of_cell? _ _ hw441_0; first | rwa [add_block] at this | exact this) GW446.out)) | (show (Addr.add _ _).block ≠ _; rw [add_block]; exact Nat.ne_of_lt (Nat.lt_of_lt_of_le (by have := World.block_lt_of_cell? _ _ hw441_0; first | rwa [add_block] at this | exact this) GW446.out)) | (dsimp only; exact Nat.ne_of_lt (Nat.lt_of_lt_of_le (by have := World.block_lt_of_cell? _ _ hw441_0; first | rwa [add_block] at this | exact this) GW446.out))) _).trans (hHeld.2.1)), ((cell_far (p := ⟨gb446, _, none⟩) (by first | exact Nat.ne_of_lt (Nat.lt_of_lt_of_le (by have := World.block_lt_of_cell? _ _ hw441_1; first | rwa [add_block] at this | exact this) GW446.out) | (rw [add_block]; exact Nat.ne_of_lt (Nat.lt_of_lt_of_le (by have := World.block_lt_of_cell? _ _ hw441_1; first | rwa [add_block] at this | exact this) GW446.out)) | (show (Addr.add _ _).block ≠ _; rw [add_block]; exact Nat.ne_of_lt (Nat.lt_of_lt_of_le (by have := World.block_lt_of_cell? _ _ hw441_1; first | rwa [add_block] at this | exact this) GW446.out)) | (dsimp only; exact Nat.ne_of_lt (Nat.lt_of_lt_of_le (by have := World.block_lt_of_cell? _ _ hw441_1; first | rwa [add_block] at this | exact this) GW446.out))) _).trans (hHeld.2.2.1)), ((cell_far (p := ⟨gb446, _, none⟩) (by first | exact Nat.ne_of_lt (Nat.lt_of_lt_of_le (by have := World.block_lt_of_cell? _ _ hw441_2; first | rwa [add_block] at this | exact this) GW446.out) | (rw [add_block]; exact Nat.ne_of_lt (Nat.lt_of_lt_of_le (by have := World.block_lt_of_cell? _ _ hw441_2; first | rwa [add_block] at this | exact this) GW446.out)) | (show (Addr.add _ _).block ≠ _; rw [add_block]; exact Nat.ne_of_lt (Nat.lt_of_lt_of_le (by have := World.block_lt_of_cell? _ _ hw441_2; first | rwa [add_block] at this | exact this) GW446.out)) | (dsimp only; exact Nat.ne_of_lt (Nat.lt_of_lt_of_le (by have := World.block_lt_of_cell? _ _ hw441_2; first | rwa [add_block] at this | exact this) GW446.out))) _).trans (hHeld.2.2.2.1)), ((cell_far (p := ⟨gb446, _, none⟩) (by first | exact Nat.ne_of_lt (Nat.lt_of_lt_of_le (by have := World.block_lt_of_cell? _ _ hw441_3; first | rwa [add_block] at this | exact this) GW446.out) | (rw [add_block]; exact Nat.ne_of_lt (Nat.lt_of_lt_of_le (by have := World.block_lt_of_cell? _ _ hw441_3; first | rwa [add_block] at this | exact this) GW446.out)) | (show (Addr.add _ _).block ≠ _; rw [add_block]; exact Nat.ne_of_lt (Nat.lt_of_lt_of_le (by have := World.block_lt_of_cell? _ _ hw441_3; first | rwa [add_block] at this | exact this) GW446.out)) | (dsimp only; exact Nat.ne_of_lt (Nat.lt_of_lt_of_le (by have := World.block_lt_of_cell? _ _ hw441_3; first | rwa [add_block] at this | exact this) GW446.out))) _).trans (hHeld.2.2.2.2))⟩ (fun hHeld => ?_)
               clear hK K; refine pure_ (i := 11) (N := some 9) (v := ?_) (a' := ?_) #[true, true, true, true, true, true, true, true, true, true, true, true] rfl rfl (any_of HT_.out (by kernel_rfl)) (fun _ _ _ h => h) (Or.inl ⟨by rfl, ?_⟩) ?_ ?_
               rotate_left
               · intro w'; go_simp; with_reducible rfl
               rotate_left
               · simp only [Act.put, ps1, ps2, ps3, i64_w, i32_w]; rfl
               refine done_ (done_of HT_.out (by kernel_rfl)) ?_
               have hnb39 := NB446_431.out; have hnc39 := NB431_446.out; have hnb40 := NB446_432.out; have hnc40 := NB432_446.out; have hnb41 := NB446_440.out; have hnc41 := NB440_446.out; obtain ⟨hcz42_0, hfz42_0⟩ := ba1 BK446; have hnb43 := NB440_431.out; have hnc43 := NB431_440.out; have hnb44 := NB440_432.out; have hnc44 := NB432_440.out; obtain ⟨hcz45_0, hfz45_0⟩ := ba1 BK440
               try go_wp2
               go_roundg k2
               case measure => have := HJ2.out; have := HK2.out; omega
               case rel => exact ⟨(wrap64 (x7_2 + 1)), (t442), (.slice Ao37 t442.length co37), t28_, H', ⟨by have := HJ2.out; have := HK2.out; omega⟩, ⟨by (with_reducible repeat (first | apply Kd.R_alloc | apply Kd.R_drewN | apply Kd.R_drew)); exact Kd.R_mono (Kd.R_far (p := ⟨gb440, 0, none⟩) (Kd.R_far (p := ⟨gb446, 0, none⟩) (Kd.R_types (Kd.R_types HO444.out BK446.out (by decide)) BK440.out (by decide)) (fun _ hk => hk.1.2) (.slice Ao37 t442.length co37)) (fun _ hk => hk.2) (.slice Ao37 t442.length co37)) (fun _ hk => trivial)⟩, ⟨zF2 BK431 NB431_440 NB431_446⟩, ⟨zF2 BK432 NB432_440 NB432_446⟩, ⟨zPF BK440 NB440_446⟩, ⟨t34_⟩⟩
             · replace c31 := Bool.eq_false_iff.mpr c31; subst c31; have H1 : (some (x441000_2, x7_2)) = some (r1, r2) := by rw [if_neg (show ¬ (false = true) by decide)] at H; exact H
               clear H; have H := H1; clear H1; simp only [Option.some.injEq, Prod.mk.injEq] at H; obtain ⟨rfl, rfl⟩ := H; obtain ⟨Ao46, co46, eo46⟩ := Kd.R_slice HO_441000.out; subst eo46
               try go_wp2
               replace HO_441000 := Aside0.mk (Kd.R_drew HO_441000.out); replace BK431 := Aside0.mk (blk_drew BK431.out); replace BK432 := Aside0.mk (blk_drew BK432.out); replace BK440 := Aside0.mk (blk_drew BK440.out); replace HB := Aside0.mk (below_drew1 HB.out); have p441 : 0 ≤ (x7_2 : Int) := of_decide_eq_true t8_; have q441 : x7_2 < (l1.length : Int) := of_decide_eq_true t8_; obtain ⟨ad441, e441, hx441_0, hx441_1, hx441_2, hx441_3⟩ := at_T65 HR1.out x7_2 p441 q441; have hw441_3 := hx441_3; have hw441_2 := hx441_2; have hw441_1 := hx441_1; have hw441_0 := hx441_0
               cases e441
               replace hx441_0 := cW HB hx441_0; replace hx441_1 := cW HB hx441_1; replace hx441_2 := cW HB hx441_2; replace hx441_3 := cW HB hx441_3; replace p441 := eq_true p441; replace q441 := eq_true q441; refine start_ (n := 12) (S := fun w' => w'.cell? ⟨gb440, 0, none⟩ = some (.slice Ao46 x441000_2.length co46) ∧ w'.cell? (ad441.add ((x7_2).toNat * 4)) = some (.int .i64 ((rd_T65 l1 x7_2).f0)) ∧ w'.cell? ⟨(ad441.add ((x7_2).toNat * 4)).block, (ad441.add ((x7_2).toNat * 4)).off + 1, none⟩ = some (.string ((rd_T65 l1 x7_2).f1)) ∧ w'.cell? ⟨(ad441.add ((x7_2).toNat * 4)).block, (ad441.add ((x7_2).toNat * 4)).off + 2, none⟩ = some (.string ((rd_T65 l1 x7_2).f2)) ∧ w'.cell? ⟨(ad441.add ((x7_2).toNat * 4)).block, (ad441.add ((x7_2).toNat * 4)).off + 3, none⟩ = some (.string ((rd_T65 l1 x7_2).f3))) (ds := []) #[false, false, false, false, false, false, false, false, false, false, false, false] (by kernel_rfl) rfl rfl ⟨bc0 BK440, ((HB.out.cell (World.block_lt_of_cell? w _ hw441_0)).trans hw441_0), ((HB.out.cell (World.block_lt_of_cell? w _ hw441_1)).trans hw441_1), ((HB.out.cell (World.block_lt_of_cell? w _ hw441_2)).trans hw441_2), ((HB.out.cell (World.block_lt_of_cell? w _ hw441_3)).trans hw441_3)⟩ (fun hHeld => ?_); refine with_tabW spec_PutRaws.tab7 spec_PutRaws.bits7 (fun HT_ HW_ => ?_)
               generalize wr.drew = w47 at HO_441000 BK431 BK432 BK440 HB hx441_0 hx441_1 hx441_2 hx441_3 hHeld ⊢; refine pure_ (i := 1) (N := some 32) (v := ?_) (a' := ?_) #[false, true, false, false, false, false, false, false, false, false, false, false] rfl rfl (any_of HT_.out (by kernel_rfl)) (fun _ _ _ h => h) (Or.inl ⟨by rfl, ?_⟩) ?_ ?_
               rotate_left
               · intro w'; go_simp; with_reducible rfl
               rotate_left
               · simp only [Act.put, ps1, ps2, ps3, i64_w, i32_w]; rfl
               refine pure_ (i := 2) (N := some 33) (v := ?_) (a' := ?_) #[false, true, true, false, false, false, false, false, false, false, false, false] rfl rfl (any_of HT_.out (by kernel_rfl)) (fun _ _ _ h => h) (Or.inl ⟨by rfl, ?_⟩) ?_ ?_
               rotate_left
               · intro w'; go_simp; with_reducible rfl
               rotate_left
               · simp only [Act.put, ps1, ps2, ps3, i64_w, i32_w]; rfl
               refine pure_ (i := 3) (N := some 34) (v := ?_) (a' := ?_) #[false, true, true, true, false, false, false, false, false, false, false, false] rfl rfl (any_of HT_.out (by kernel_rfl)) (fun _ _ _ h => h) (Or.inl ⟨by rfl, ?_⟩) ?_ ?_
               rotate_left
               · intro w'; go_simp; with_reducible rfl
               rotate_left
               · simp only [Act.put, ps1, ps2, ps3, i64_w, i32_w]; rfl
               refine take_ (i := 0) (N := some 31) (v := ?_) (a' := ?_) #[true, true, true, true, false, false, false, false, false, false, false, false] rfl rfl (take_ofW HT_.out HW_.out (by kernel_rfl)) (fun _ _ _ h => h) (Or.inl ⟨by rfl, ?_⟩) hHeld ?_ ?_
               rotate_left
               · rintro w' ⟨s0, s1, s2, s3, s4⟩; go_simp; with_reducible rfl
               rotate_left
               · simp only [Act.put, ps1, ps2, ps3, i64_w, i32_w]; rfl
               refine take_ (i := 4) (N := some 35) (v := ?_) (a' := ?_) #[true, true, true, true, true, false, false, false, false, false, false, false] rfl rfl (take_ofW HT_.out HW_.out (by kernel_rfl)) (fun _ _ _ h => h) (Or.inl ⟨by rfl, ?_⟩) hHeld ?_ ?_
               rotate_left
               · rintro w' ⟨s0, s1, s2, s3, s4⟩; go_simp; with_reducible rfl
               rotate_left
               · simp only [Act.put, ps1, ps2, ps3, i64_w, i32_w]; rfl
               refine join_ (σ := Value × Nat) 2 #[true, true, true, true, true, true, true, true, true, true, false, false] (fun s_ => [(36, .tuple #[.agg #[s_.1], .bool false]), (8, .pointer (some ⟨s_.2, 0, none⟩)), (30, .tuple #[.agg #[s_.1], .bool false]), (37, .agg #[s_.1]), (38, .bool false)]) (fun s_ w' => (w'.cell? ⟨gb440, 0, none⟩ = some (.slice Ao46 x441000_2.length co46) ∧ w'.cell? (ad441.add ((x7_2).toNat * 4)) = some (.int .i64 ((rd_T65 l1 x7_2).f0)) ∧ w'.cell? ⟨(ad441.add ((x7_2).toNat * 4)).block, (ad441.add ((x7_2).toNat * 4)).off + 1, none⟩ = some (.string ((rd_T65 l1 x7_2).f1)) ∧ w'.cell? ⟨(ad441.add ((x7_2).toNat * 4)).block, (ad441.add ((x7_2).toNat * 4)).off + 2, none⟩ = some (.string ((rd_T65 l1 x7_2).f2)) ∧ w'.cell? ⟨(ad441.add ((x7_2).toNat * 4)).block, (ad441.add ((x7_2).toNat * 4)).off + 3, none⟩ = some (.string ((rd_T65 l1 x7_2).f3))) ∧ (Kd.R k71 71 w' w.heap.size (fun k_ => some k_ ≠ (.slice Ao46 x441000_2.length co46 : Value).ownBlock) s_.1 t442) ∧ (Kd.R k71 71 w' w.heap.size (fun k_ => some k_ ≠ (s_.1 : Value).ownBlock) (.slice Ao46 x441000_2.length co46) x441000_2) ∧ (w'.heap[gb431]? = some (.cells #[.slice A0_0 l0_0.length c0_0] 30 (0, 0))) ∧ (w'.heap[gb432]? = some (.cells #[.slice none 0 0] 30 (0, 0))) ∧ (w'.heap[gb440]? = some (.cells #[.slice Ao46 x441000_2.length co46] 30 (0, 0))) ∧ (w'.heap[s_.2]? = some (.cells #[.slice none 0 0] 30 (0, 0))) ∧ (w.heap.size ≤ s_.2) ∧ (w.heap.size ≤ s_.2) ∧ (gb431 ≠ s_.2) ∧ (s_.2 ≠ gb431) ∧ (gb432 ≠ s_.2) ∧ (s_.2 ≠ gb432) ∧ (gb440 ≠ s_.2) ∧ (s_.2 ≠ gb440) ∧ (Below w.heap.size w w')) ?_ ?_
               rotate_left
               · intro hCont; refine two_ (i := 5) (j := 9) (Ni := some 36) (Nj := some 8) #[true, true, true, true, true, true, false, false, false, false, false, false] #[true, true, true, true, true, false, false, false, false, true, false, false] rfl rfl rfl rfl (two_of HT_.out (by kernel_rfl)) (by decide) (by decide) (fun K hK => ?_) (fun K hK => ?_)
                 · skip
                   refine goes_ Try.func36 (by kernel_rfl) rfl #[.agg #[.slice Ao46 x441000_2.length co46], .agg #[.int .i64 ((rd_T65 l1 x7_2).f0), .string ((rd_T65 l1 x7_2).f1), .string ((rd_T65 l1 x7_2).f2), .string ((rd_T65 l1 x7_2).f3)]] (by rfl) rfl rfl t0_ ?_
                   with_reducible refine (spec_PutRaw.calls k2 _ _ x441000_2 ((rd_T65 l1 x7_2).f0) ((rd_T65 l1 x7_2).f1) ((rd_T65 l1 x7_2).f2) ((rd_T65 l1 x7_2).f3) t442 false _ ?side1 ?side2 A30.out).mono ?_
                   (case side1 => repeat (first | exact (Kd.R_reads' HO_441000.out).2.2 | (with_reducible refine Kd.C_alloc ?_ _) | (with_reducible refine Kd.C_drewN ?_ _) | (with_reducible refine Kd.C_drew ?_)))
                   (case side2 => exact (Kd.R_reads' HO_441000.out).2.1)
                   rintro e w48 ⟨v443, rfl, ho0, hb⟩; refine ⟨_, rfl, ?_⟩
                   have HO444 := Aside0.mk (Kd.R_lower (Kd.R_new' ho0 (Kd.R_lt t67_)) (below_size t20_)); replace HO_441000 := Aside0.mk (Kd.R_elder' t67_ (Kd.R_base ho0) hb); replace BK431 := bkN BK431 hb; replace BK432 := bkN BK432 hb; replace BK440 := bkN BK440 hb; replace HB := bS t20_ hb
                   (try clear hb)
                   (try clear hb2)
                   (try clear hk)
                   (try clear hi)
                   (try clear ho0)
                   refine hK.out _ _ ⟨bc0 BK440, ((HB.out.cell (World.block_lt_of_cell? w _ hw441_0)).trans hw441_0), ((HB.out.cell (World.block_lt_of_cell? w _ hw441_1)).trans hw441_1), ((HB.out.cell (World.block_lt_of_cell? w _ hw441_2)).trans hw441_2), ((HB.out.cell (World.block_lt_of_cell? w _ hw441_3)).trans hw441_3)⟩ (fun hHeld => ?_)
                   clear hK K; refine norm_ (a' := ?_) ?_ ?_
                   rotate_left
                   · show Act.put _ (some 36) _ = _
                     simp only [Act.put, ps1, ps2, ps3, i64_w, i32_w]; rfl
                   refine pure_ (i := 6) (N := some 30) (v := ?_) (a' := ?_) #[true, true, true, true, true, true, true, false, false, false, false, false] rfl rfl (any_of HT_.out (by kernel_rfl)) (fun _ _ _ h => h) (Or.inl ⟨by rfl, ?_⟩) ?_ ?_
                   rotate_left
                   · intro w'; go_simp; with_reducible rfl
                   rotate_left
                   · simp only [Act.put, ps1, ps2, ps3, i64_w, i32_w]; rfl
                   refine pure_ (i := 7) (N := some 37) (v := ?_) (a' := ?_) #[true, true, true, true, true, true, true, true, false, false, false, false] rfl rfl (any_of HT_.out (by kernel_rfl)) (fun _ _ _ h => h) (Or.inl ⟨by rfl, ?_⟩) ?_ ?_
                   rotate_left
                   · intro w'; go_simp; with_reducible rfl
                   rotate_left
                   · simp only [Act.put, ps1, ps2, ps3, i64_w, i32_w]; rfl
                   refine pure_ (i := 8) (N := some 38) (v := ?_) (a' := ?_) #[true, true, true, true, true, true, true, true, true, false, false, false] rfl rfl (any_of HT_.out (by kernel_rfl)) (fun _ _ _ h => h) (Or.inl ⟨by rfl, ?_⟩) ?_ ?_
                   rotate_left
                   · intro w'; go_simp; with_reducible rfl
                   rotate_left
                   · simp only [Act.put, ps1, ps2, ps3, i64_w, i32_w]; rfl
                   refine one_ (i := 9) (N := some 8) #[true, true, true, true, true, true, true, true, true, true, false, false] rfl rfl (one_of HT_.out (by kernel_rfl)) (by decide) (fun K hK => ?_)
                   refine box_step ?hg (N := 8) ?hd (cs := #[.slice none 0 0]) (t := 30) ?hr ?_; (case hd => rfl); (case hg => rfl); (case hr => first | (go_simp; done) | (go_simp; rfl))
                   intro gb446 hg w49 hbox hb; replace HO_441000 := Aside0.mk (Kd.R_below t67_ hb); replace HO444 := Aside0.mk (Kd.R_below (zK HO444) hb); have BK446 := Aside0.mk (hbox); have GW446 := Aside0.mk ((t41_ : w.heap.size ≤ gb446)); have GE446 := GW446; replace HB := bS t20_ hb; have NB431_446 := nbL BK431 hg; have NB446_431 := nbG BK431 hg; replace BK431 := bkN BK431 hb; have NB432_446 := nbL BK432 hg; have NB446_432 := nbG BK432 hg; replace BK432 := bkN BK432 hb; have NB440_446 := nbL BK440 hg; have NB446_440 := nbG BK440 hg; replace BK440 := bkN BK440 hb; clear hb hbox hg; refine hK.out _ _ ⟨bc0 BK440, ((HB.out.cell (World.block_lt_of_cell? w _ hw441_0)).trans hw441_0), ((HB.out.cell (World.block_lt_of_cell? w _ hw441_1)).trans hw441_1), ((HB.out.cell (World.block_lt_of_cell? w _ hw441_2)).trans hw441_2), ((HB.out.cell (World.block_lt_of_cell? w _ hw441_3)).trans hw441_3)⟩ (fun hHeld => ?_)
                   clear hK K; refine norm_ (a' := ?_) ?_ ?_
                   rotate_left
                   · show Act.put _ (some 8) _ = _
                     simp only [Act.put, ps1, ps2, ps3, i64_w, i32_w]; rfl
                   exact norm_ t94_ (hCont (v443, gb446) _ ⟨hHeld, (by (with_reducible repeat (first | apply Kd.R_alloc | apply Kd.R_drewN | apply Kd.R_drew)); exact Kd.R_mono HO444.out (fun _ hk => hk.2)), (by (with_reducible repeat (first | apply Kd.R_alloc | apply Kd.R_drewN | apply Kd.R_drew)); exact Kd.R_mono HO_441000.out (fun _ hk => hk.2)), t103_, t104_, t108_, t109_, GW446.out, GE446.out, NB431_446.out, NB446_431.out, NB432_446.out, NB446_432.out, NB440_446.out, NB446_440.out, t34_⟩)
                 · skip
                   refine box_step ?hg (N := 8) ?hd (cs := #[.slice none 0 0]) (t := 30) ?hr ?_; (case hd => rfl); (case hg => rfl); (case hr => first | (go_simp; done) | (go_simp; rfl))
                   intro gb446 hg w48 hbox hb; replace HO_441000 := Aside0.mk (Kd.R_below t67_ hb); have BK446 := Aside0.mk (hbox); have GW446 := Aside0.mk ((t41_ : w.heap.size ≤ gb446)); have GE446 := GW446; replace HB := bS t20_ hb; have NB431_446 := nbL BK431 hg; have NB446_431 := nbG BK431 hg; replace BK431 := bkN BK431 hb; have NB432_446 := nbL BK432 hg; have NB446_432 := nbG BK432 hg; replace BK432 := bkN BK432 hb; have NB440_446 := nbL BK440 hg; have NB446_440 := nbG BK440 hg; replace BK440 := bkN BK440 hb; clear hb hbox hg; refine hK.out _ _ ⟨bc0 BK440, ((HB.out.cell (World.block_lt_of_cell? w _ hw441_0)).trans hw441_0), ((HB.out.cell (World.block_lt_of_cell? w _ hw441_1)).trans hw441_1), ((HB.out.cell (World.block_lt_of_cell? w _ hw441_2)).trans hw441_2), ((HB.out.cell (World.block_lt_of_cell? w _ hw441_3)).trans hw441_3)⟩ (fun hHeld => ?_)
                   clear hK K; refine norm_ (a' := ?_) ?_ ?_
                   rotate_left
                   · show Act.put _ (some 8) _ = _
                     simp only [Act.put, ps1, ps2, ps3, i64_w, i32_w]; rfl
                   refine one_ (i := 5) (N := some 36) #[true, true, true, true, true, true, false, false, false, true, false, false] rfl rfl (one_of HT_.out (by kernel_rfl)) (by decide) (fun K hK => ?_)
                   refine goes_ Try.func36 (by kernel_rfl) rfl #[.agg #[.slice Ao46 x441000_2.length co46], .agg #[.int .i64 ((rd_T65 l1 x7_2).f0), .string ((rd_T65 l1 x7_2).f1), .string ((rd_T65 l1 x7_2).f2), .string ((rd_T65 l1 x7_2).f3)]] (by rfl) rfl rfl t0_ ?_
                   with_reducible refine (spec_PutRaw.calls k2 _ _ x441000_2 ((rd_T65 l1 x7_2).f0) ((rd_T65 l1 x7_2).f1) ((rd_T65 l1 x7_2).f2) ((rd_T65 l1 x7_2).f3) t442 false _ ?side1 ?side2 A30.out).mono ?_
                   (case side1 => repeat (first | exact (Kd.R_reads' HO_441000.out).2.2 | (with_reducible refine Kd.C_alloc ?_ _) | (with_reducible refine Kd.C_drewN ?_ _) | (with_reducible refine Kd.C_drew ?_)))
                   (case side2 => exact (Kd.R_reads' HO_441000.out).2.1)
                   rintro e w49 ⟨v443, rfl, ho0, hb⟩; refine ⟨_, rfl, ?_⟩
                   have HO444 := Aside0.mk (Kd.R_lower (Kd.R_new' ho0 (Kd.R_lt t67_)) (below_size t34_)); replace HO_441000 := Aside0.mk (Kd.R_elder' t67_ (Kd.R_base ho0) hb); replace BK431 := bkN BK431 hb; replace BK432 := bkN BK432 hb; replace BK440 := bkN BK440 hb; replace BK446 := bkN BK446 hb; replace HB := bS t34_ hb
                   (try clear hb)
                   (try clear hb2)
                   (try clear hk)
                   (try clear hi)
                   (try clear ho0)
                   refine hK.out _ _ ⟨bc0 BK440, ((HB.out.cell (World.block_lt_of_cell? w _ hw441_0)).trans hw441_0), ((HB.out.cell (World.block_lt_of_cell? w _ hw441_1)).trans hw441_1), ((HB.out.cell (World.block_lt_of_cell? w _ hw441_2)).trans hw441_2), ((HB.out.cell (World.block_lt_of_cell? w _ hw441_3)).trans hw441_3)⟩ (fun hHeld => ?_)
                   clear hK K; refine norm_ (a' := ?_) ?_ ?_
                   rotate_left
                   · show Act.put _ (some 36) _ = _
                     simp only [Act.put, ps1, ps2, ps3, i64_w, i32_w]; rfl
                   refine pure_ (i := 6) (N := some 30) (v := ?_) (a' := ?_) #[true, true, true, true, true, true, true, false, false, true, false, false] rfl rfl (any_of HT_.out (by kernel_rfl)) (fun _ _ _ h => h) (Or.inl ⟨by rfl, ?_⟩) ?_ ?_
                   rotate_left
                   · intro w'; go_simp; with_reducible rfl
                   rotate_left
                   · simp only [Act.put, ps1, ps2, ps3, i64_w, i32_w]; rfl
                   refine pure_ (i := 7) (N := some 37) (v := ?_) (a' := ?_) #[true, true, true, true, true, true, true, true, false, true, false, false] rfl rfl (any_of HT_.out (by kernel_rfl)) (fun _ _ _ h => h) (Or.inl ⟨by rfl, ?_⟩) ?_ ?_
                   rotate_left
                   · intro w'; go_simp; with_reducible rfl
                   rotate_left
                   · simp only [Act.put, ps1, ps2, ps3, i64_w, i32_w]; rfl
                   refine pure_ (i := 8) (N := some 38) (v := ?_) (a' := ?_) #[true, true, true, true, true, true, true, true, true, true, false, false] rfl rfl (any_of HT_.out (by kernel_rfl)) (fun _ _ _ h => h) (Or.inl ⟨by rfl, ?_⟩) ?_ ?_
                   rotate_left
                   · intro w'; go_simp; with_reducible rfl
                   rotate_left
                   · simp only [Act.put, ps1, ps2, ps3, i64_w, i32_w]; rfl
                   exact norm_ t94_ (hCont (v443, gb446) _ ⟨hHeld, (by (with_reducible repeat (first | apply Kd.R_alloc | apply Kd.R_drewN | apply Kd.R_drew)); exact Kd.R_mono HO444.out (fun _ hk => hk.2)), (by (with_reducible repeat (first | apply Kd.R_alloc | apply Kd.R_drewN | apply Kd.R_drew)); exact Kd.R_mono HO_441000.out (fun _ hk => hk.2)), t103_, t104_, t108_, t109_, GW446.out, GE446.out, NB431_446.out, NB446_431.out, NB432_446.out, NB446_432.out, NB440_446.out, NB446_440.out, t34_⟩)
               rintro ⟨v443, gb446⟩ w50 ⟨hS_, h0_, h1_, h2_, h3_, h4_, h5_, h6_, h7_, h8_, h9_, h10_, h11_, h12_, h13_, h14_⟩; have n0_ : Aside0 (Kd.R k71 71 w50 w.heap.size (fun k_ => some k_ ≠ (.slice Ao46 x441000_2.length co46 : Value).ownBlock) v443 t442) := ⟨h0_⟩; have n1_ : Aside0 (Kd.R k71 71 w50 w.heap.size (fun k_ => some k_ ≠ (v443 : Value).ownBlock) (.slice Ao46 x441000_2.length co46) x441000_2) := ⟨h1_⟩; have n2_ : Aside0 (w50.heap[gb431]? = some (.cells #[.slice A0_0 l0_0.length c0_0] 30 (0, 0))) := ⟨h2_⟩; have n3_ : Aside0 (w50.heap[gb432]? = some (.cells #[.slice none 0 0] 30 (0, 0))) := ⟨h3_⟩; have n4_ : Aside0 (w50.heap[gb440]? = some (.cells #[.slice Ao46 x441000_2.length co46] 30 (0, 0))) := ⟨h4_⟩; have n5_ : Aside0 (w50.heap[gb446]? = some (.cells #[.slice none 0 0] 30 (0, 0))) := ⟨h5_⟩; have n6_ : Aside0 (w.heap.size ≤ gb446) := ⟨h6_⟩; have n7_ : Aside0 (w.heap.size ≤ gb446) := ⟨h7_⟩; have n8_ : Aside0 (gb431 ≠ gb446) := ⟨h8_⟩; have n9_ : Aside0 (gb446 ≠ gb431) := ⟨h9_⟩; have n10_ : Aside0 (gb432 ≠ gb446) := ⟨h10_⟩; have n11_ : Aside0 (gb446 ≠ gb432) := ⟨h11_⟩; have n12_ : Aside0 (gb440 ≠ gb446) := ⟨h12_⟩; have n13_ : Aside0 (gb446 ≠ gb440) := ⟨h13_⟩; have n14_ : Aside0 (Below w.heap.size w w50) := ⟨h14_⟩; clear HO_441000; clear BK431; clear BK432; clear BK440; clear HB; clear h0_ h1_ h2_ h3_ h4_ h5_ h6_ h7_ h8_ h9_ h10_ h11_ h12_ h13_ h14_; have HO444 := n0_; have HO_441000 := n1_; have BK431 := n2_; have BK432 := n3_; have BK440 := n4_; have BK446 := n5_; have GW446 := n6_; have GE446 := n7_; have NB431_446 := n8_; have NB446_431 := n9_; have NB432_446 := n10_; have NB446_432 := n11_; have NB440_446 := n12_; have NB446_440 := n13_; have HB := n14_; clear n0_ n1_ n2_ n3_ n4_ n5_ n6_ n7_ n8_ n9_ n10_ n11_ n12_ n13_ n14_; have hHeld : w50.cell? ⟨gb440, 0, none⟩ = some (.slice Ao46 x441000_2.length co46) ∧ w50.cell? (ad441.add ((x7_2).toNat * 4)) = some (.int .i64 ((rd_T65 l1 x7_2).f0)) ∧ w50.cell? ⟨(ad441.add ((x7_2).toNat * 4)).block, (ad441.add ((x7_2).toNat * 4)).off + 1, none⟩ = some (.string ((rd_T65 l1 x7_2).f1)) ∧ w50.cell? ⟨(ad441.add ((x7_2).toNat * 4)).block, (ad441.add ((x7_2).toNat * 4)).off + 2, none⟩ = some (.string ((rd_T65 l1 x7_2).f2)) ∧ w50.cell? ⟨(ad441.add ((x7_2).toNat * 4)).block, (ad441.add ((x7_2).toNat * 4)).off + 3, none⟩ = some (.string ((rd_T65 l1 x7_2).f3)) := hS_; obtain ⟨Ao51, co51, eo51⟩ := Kd.R_slice HO444.out
               (first | subst eo51 | (injection eo51 with f1_ f2_ f3_; have f4_ := f1_.symm; have f5_ := f3_.symm; clear f1_ f2_ f3_; subst f4_; subst f5_))
               refine norm_ (a' := ?_) ?_ ?_
               rotate_left
               · simp only [putAll, Act.put, List.setIfInBounds_toArray, List.set_cons_zero, List.set_cons_succ]; rfl
               refine one_ (i := 10) (N := none) #[true, true, true, true, true, true, true, true, true, true, true, false] rfl rfl (one_of HT_.out (by kernel_rfl)) (by decide) (fun K hK => ?_)
               have hs52 : w50.cell? ⟨gb446, 0, none⟩ = some (.slice none 0 0) := bc0 BK446; have hfs52 := bf BK446 0; have hns52_0 := NB431_446.out; have hns52_1 := NB432_446.out; have hns52_2 := NB440_446.out; have hms52_0 := NB446_431.out; have hms52_1 := NB446_432.out; have hms52_2 := NB446_440.out; refine skip_ (w1 := ?_) (by rfl) rfl ?_ ?_
               rotate_left
               · go_simp; rfl
               refine hK.out _ _ ⟨((cell_far (p := ⟨gb446, _, none⟩) NB440_446.out _).trans (hHeld.1)), ((cell_far (p := ⟨gb446, _, none⟩) (by first | exact Nat.ne_of_lt (Nat.lt_of_lt_of_le (by have := World.block_lt_of_cell? _ _ hw441_0; first | rwa [add_block] at this | exact this) GW446.out) | (rw [add_block]; exact Nat.ne_of_lt (Nat.lt_of_lt_of_le (by have := World.block_lt_of_cell? _ _ hw441_0; first | rwa [add_block] at this | exact this) GW446.out)) | (show (Addr.add _ _).block ≠ _; rw [add_block]; exact Nat.ne_of_lt (Nat.lt_of_lt_of_le (by have := World.block_lt_of_cell? _ _ hw441_0; first | rwa [add_block] at this | exact this) GW446.out)) | (dsimp only; exact Nat.ne_of_lt (Nat.lt_of_lt_of_le (by have := World.block_lt_of_cell? _ _ hw441_0; first | rwa [add_block] at this | exact this) GW446.out))) _).trans (hHeld.2.1)), ((cell_far (p := ⟨gb446, _, none⟩) (by first | exact Nat.ne_of_lt (Nat.lt_of_lt_of_le (by have := World.block_lt_of_cell? _ _ hw441_1; first | rwa [add_block] at this | exact this) GW446.out) | (rw [add_block]; exact Nat.ne_of_lt (Nat.lt_of_lt_of_le (by have := World.block_lt_of_cell? _ _ hw441_1; first | rwa [add_block] at this | exact this) GW446.out)) | (show (Addr.add _ _).block ≠ _; rw [add_block]; exact Nat.ne_of_lt (Nat.lt_of_lt_of_le (by have := World.block_lt_of_cell? _ _ hw441_1; first | rwa [add_block] at this | exact this) GW446.out)) | (dsimp only; exact Nat.ne_of_lt (Nat.lt_of_lt_of_le (by have := World.block_lt_of_cell? _ _ hw441_1; first | rwa [add_block] at this | exact this) GW446.out))) _).trans (hHeld.2.2.1)), ((cell_far (p := ⟨gb446, _, none⟩) (by first | exact Nat.ne_of_lt (Nat.lt_of_lt_of_le (by have := World.block_lt_of_cell? _ _ hw441_2; first | rwa [add_block] at this | exact this) GW446.out) | (rw [add_block]; exact Nat.ne_of_lt (Nat.lt_of_lt_of_le (by have := World.block_lt_of_cell? _ _ hw441_2; first | rwa [add_block] at this | exact this) GW446.out)) | (show (Addr.add _ _).block ≠ _; rw [add_block]; exact Nat.ne_of_lt (Nat.lt_of_lt_of_le (by have := World.block_lt_of_cell? _ _ hw441_2; first | rwa [add_block] at this | exact this) GW446.out)) | (dsimp only; exact Nat.ne_of_lt (Nat.lt_of_lt_of_le (by have := World.block_lt_of_cell? _ _ hw441_2; first | rwa [add_block] at this | exact this) GW446.out))) _).trans (hHeld.2.2.2.1)), ((cell_far (p := ⟨gb446, _, none⟩) (by first | exact Nat.ne_of_lt (Nat.lt_of_lt_of_le (by have := World.block_lt_of_cell? _ _ hw441_3; first | rwa [add_block] at this | exact this) GW446.out) | (rw [add_block]; exact Nat.ne_of_lt (Nat.lt_of_lt_of_le (by have := World.block_lt_of_cell? _ _ hw441_3; first | rwa [add_block] at this | exact this) GW446.out)) | (show (Addr.add _ _).block ≠ _; rw [add_block]; exact Nat.ne_of_lt (Nat.lt_of_lt_of_le (by have := World.block_lt_of_cell? _ _ hw441_3; first | rwa [add_block] at this | exact this) GW446.out)) | (dsimp only; exact Nat.ne_of_lt (Nat.lt_of_lt_of_le (by have := World.block_lt_of_cell? _ _ hw441_3; first | rwa [add_block] at this | exact this) GW446.out))) _).trans (hHeld.2.2.2.2))⟩ (fun hHeld => ?_)
               clear hK K; refine pure_ (i := 11) (N := some 9) (v := ?_) (a' := ?_) #[true, true, true, true, true, true, true, true, true, true, true, true] rfl rfl (any_of HT_.out (by kernel_rfl)) (fun _ _ _ h => h) (Or.inl ⟨by rfl, ?_⟩) ?_ ?_
               rotate_left
               · intro w'; go_simp; with_reducible rfl
               rotate_left
               · simp only [Act.put, ps1, ps2, ps3, i64_w, i32_w]; rfl
               refine done_ (done_of HT_.out (by kernel_rfl)) ?_
               have hnb53 := NB440_431.out; have hnc53 := NB431_440.out; have hnb54 := NB440_432.out; have hnc54 := NB432_440.out; have hnb55 := NB440_446.out; have hnc55 := NB446_440.out; obtain ⟨hcz56_0, hfz56_0⟩ := ba1 BK440; have hnb57 := NB432_431.out; have hnc57 := NB431_432.out; have hnb58 := NB432_446.out; have hnc58 := NB446_432.out; obtain ⟨hcz59_0, hfz59_0⟩ := ba1 BK432
               try go_wp2
               refine bodyPost_ret (results_ct rfl _ _ gb432 30 #[.slice Ao46 x441000_2.length co46] (0, 0) _ rfl (zPF BK432 NB432_446) Try.underlying30 rfl (by kernel_rfl)) rfl ?_
               exact ⟨_, by first | rfl | (simp [errW_none, errW_some] <;> rfl) | (simp [*, errW_none, errW_some] <;> rfl), by (with_reducible repeat (first | apply Kd.R_alloc | apply Kd.R_drewN | apply Kd.R_drew)); exact Kd.R_mono (Kd.R_far (p := ⟨gb432, 0, none⟩) (Kd.R_far (p := ⟨gb446, 0, none⟩) (Kd.R_types (Kd.R_types HO_441000.out BK446.out (by decide)) BK432.out (by decide)) (fun _ hk => hk.1.2) (.slice Ao51 t442.length co51)) (fun _ hk => hk.2) (.slice Ao46 x441000_2.length co46)) (fun _ hk => trivial), t34_⟩
           · rw [if_neg c29] at H; exact absurd H (by simp)
         · rw [if_neg c28] at H; have c28b0 : decide (x7_2 < (l1.length : Int)) = false := decide_eq_false c28; clear c28; simp only [Option.some.injEq, Prod.mk.injEq] at H; obtain ⟨rfl, rfl⟩ := H; have hnb60 := NB440_431.out; have hnc60 := NB431_440.out; have hnb61 := NB440_432.out; have hnc61 := NB432_440.out; obtain ⟨hcz62_0, hfz62_0⟩ := ba1 BK440; obtain ⟨Ao63, co63, eo63⟩ := Kd.R_slice HO_441000.out; subst eo63; have hnb64 := NB432_431.out; have hnc64 := NB431_432.out; obtain ⟨hcz65_0, hfz65_0⟩ := ba1 BK432; go_wp2; refine bodyPost_ret (results_ct rfl _ _ gb432 30 #[.slice Ao63 x441000_2.length co63] (0, 0) _ rfl (zP BK432) Try.underlying30 rfl (by kernel_rfl)) rfl ?_
           exact ⟨_, by first | rfl | (simp [errW_none, errW_some] <;> rfl) | (simp [*, errW_none, errW_some] <;> rfl), by (with_reducible repeat (first | apply Kd.R_alloc | apply Kd.R_drewN | apply Kd.R_drew)); exact Kd.R_mono (Kd.R_far (p := ⟨gb432, 0, none⟩) (Kd.R_types HO_441000.out BK432.out (by decide)) (fun _ hk => hk.2) (.slice Ao63 x441000_2.length co63)) (fun _ hk => trivial), t20_⟩
     · rw [if_neg c17] at H; exact absurd H (by simp)

end Go.Proofs.Ytpjhbhjmaggheaa.QFnRaws
