-- By a program of this session, over the kit's print.
import Derived.Test.YtpjhbhjmaggheaaQFnRawsx0
import Derived.Test.YtpjhbhjmaggheaaQFnRawsx2
import Derived.Test.YtpjhbhjmaggheaaQFnRawsx4
import Derived.Test.YtpjhbhjmaggheaaQFnRawsx5
import Derived.Test.YtpjhbhjmaggheaaQFnRawsx11
import Derived.Test.YtpjhbhjmaggheaaQFnRawsx12
import Derived.Test.YtpjhbhjmaggheaaQFnRawsx13
namespace Go.Proofs.Ytpjhbhjmaggheaa.QFnRaws
open Go.RowKit Go.Proofs.YtpjhbhjmaggheaaW.PrintWords Go.Proofs.YtpjhbhjmaggheaaW.PrintLast Go.Proofs.YtpjhbhjmaggheaaW.PrintMore
attribute [local go_sem] max2_int min2_int max_two min_two max_three min_three max_four min_four   -- for this text's walks alone
set_option linter.unusedVariables false
set_option linter.unusedSimpArgs false

/-! ### laws_FnRaws: function 7 -/
mutual
def laws_FnRaws.j0 : Nat → List Int → List (S65) → Bool → List (S71) → List (S71) → Option (Bool)
 | 0, _, _, _, _, _ => none
 | k + 1, x0, x4, x56, x459000, x464000 => if x56 = true then (none) else (laws_FnRaws.l0 k x0 x4 0 x459000 x464000 x459000)
def laws_FnRaws.l0 : Nat → List Int → List (S65) → Int → List (S71) → List (S71) → List (S71) → Option (Bool)
 | 0, _, _, _, _, _, _ => none
 | k + 1, x0, x4, x10, x459000, x464000, x472000 => if x10 < (x4.length : Int) then (if 0 ≤ x10 then ((impl_PutRaw.f k x472000 ((rd_T65 x4 x10).f0) ((rd_T65 x4 x10).f1) ((rd_T65 x4 x10).f2) ((rd_T65 x4 x10).f3)).bind fun bt473 => (if bt473.2 = true then (laws_FnRaws.l0 k x0 x4 (wrap64 (x10 + 1)) x459000 x464000 bt473.1) else (none))) else (none)) else ((spec_DrawPlaces.f k x0).bind fun t478 => (if 0 < (t478.length : Int) then (if (wrap64 ((x4.length : Int) + 1)) = 0 then (none) else (if 0 ≤ (Int.tmod (rd t478 0) (wrap64 ((x4.length : Int) + 1))) then (if (Int.tmod (rd t478 0) (wrap64 ((x4.length : Int) + 1))) ≤ (x4.length : Int) then ((impl_PutRaws.f k x459000 (x4.take ((Int.tmod (rd t478 0) (wrap64 ((x4.length : Int) + 1))) : Int).toNat)).bind fun bt486 => ((impl_CutRaws.f k x459000 x4 (Int.tmod (rd t478 0) (wrap64 ((x4.length : Int) + 1))) 0).bind fun bt491 => (if bt491.2 = true then ((laws_sameDisk.f k x472000 x464000).bind fun t496 => (if t496 = true then ((laws_sameDisk.f k bt491.1 bt486.1).bind fun t497 => (some t497)) else (none))) else (none)))) else (none)) else (none))) else (none)))
end
def laws_FnRaws.f (k : Nat) (l0 : List Int) : Option (Bool) := (laws_big.f l0).bind fun t451 => (if t451 = true then (some true) else ((spec_DrawRightDisk.f k l0).bind fun bt452 => ((impl_PutRaws.f k bt452.1 bt452.2).bind fun bt459 => ((spec_PutRaws.f k bt452.1 bt452.2).bind fun bt464 => (if bt459.2 = bt464.2 then (if bt459.2 = (bt452.2.length : Int) then ((laws_sameDisk.f k bt459.1 bt464.1).bind fun t469 => (if t469 = true then ((impl_DiskOk.f k bt459.1).bind fun t470 => (laws_FnRaws.j0 k l0 bt452.2 (!t470) bt452.1 bt459.1)) else (laws_FnRaws.j0 k l0 bt452.2 true bt452.1 bt459.1))) else (laws_FnRaws.j0 k l0 bt452.2 true bt452.1 bt459.1)) else (laws_FnRaws.j0 k l0 bt452.2 true bt452.1 bt459.1))))))
theorem laws_FnRaws.mono_l : ∀ k, (∀ y0 y1 y2 y3 y4, LeO (laws_FnRaws.j0 k y0 y1 y2 y3 y4) (laws_FnRaws.j0 (k + 1) y0 y1 y2 y3 y4)) ∧ (∀ y0 y1 y2 y3 y4 y5, LeO (laws_FnRaws.l0 k y0 y1 y2 y3 y4 y5) (laws_FnRaws.l0 (k + 1) y0 y1 y2 y3 y4 y5))
 | 0 => ⟨fun _ _ _ _ _ r h => by simp [laws_FnRaws.j0] at h, fun _ _ _ _ _ _ r h => by simp [laws_FnRaws.l0] at h⟩
 | k + 1 => by
  obtain ⟨ih0, ih1⟩ := laws_FnRaws.mono_l k; refine ⟨?_, ?_⟩
  · intro y0 y1 y2 y3 y4
    unfold laws_FnRaws.j0
    repeat' first
    | (with_reducible exact ih0 _ _ _ _ _)
    | (with_reducible exact ih1 _ _ _ _ _ _)
    | (with_reducible exact impl_CutRaws.mono _ _ _ _ _)
    | (with_reducible exact impl_DiskOk.mono _ _)
    | (with_reducible exact impl_PutRaw.mono _ _ _ _ _ _)
    | (with_reducible exact impl_PutRaws.mono _ _ _)
    | (with_reducible exact laws_sameDisk.mono _ _ _)
    | (with_reducible exact spec_DrawPlaces.mono _ _)
    | (with_reducible exact spec_DrawRightDisk.mono _ _)
    | (with_reducible exact spec_PutRaws.mono _ _ _)
    | (with_reducible exact LeO.refl _)
    | (with_reducible exact LeO.none _)
    | (with_reducible refine LeO.ite ?_ ?_)
    | (with_reducible refine LeO.bind ?_ (fun _ => ?_))
    | exact ih0 _ _ _ _ _
    | exact ih1 _ _ _ _ _ _
    | exact impl_CutRaws.mono _ _ _ _ _
    | exact impl_DiskOk.mono _ _
    | exact impl_PutRaw.mono _ _ _ _ _ _
    | exact impl_PutRaws.mono _ _ _
    | exact laws_sameDisk.mono _ _ _
    | exact spec_DrawPlaces.mono _ _
    | exact spec_DrawRightDisk.mono _ _
    | exact spec_PutRaws.mono _ _ _
    | exact LeO.none _
    | refine LeO.ite ?_ ?_
    | refine LeO.bind ?_ (fun _ => ?_)
  · intro y0 y1 y2 y3 y4 y5
    unfold laws_FnRaws.l0
    repeat' first
    | (with_reducible exact ih0 _ _ _ _ _)
    | (with_reducible exact ih1 _ _ _ _ _ _)
    | (with_reducible exact impl_CutRaws.mono _ _ _ _ _)
    | (with_reducible exact impl_DiskOk.mono _ _)
    | (with_reducible exact impl_PutRaw.mono _ _ _ _ _ _)
    | (with_reducible exact impl_PutRaws.mono _ _ _)
    | (with_reducible exact laws_sameDisk.mono _ _ _)
    | (with_reducible exact spec_DrawPlaces.mono _ _)
    | (with_reducible exact spec_DrawRightDisk.mono _ _)
    | (with_reducible exact spec_PutRaws.mono _ _ _)
    | (with_reducible exact LeO.refl _)
    | (with_reducible exact LeO.none _)
    | (with_reducible refine LeO.ite ?_ ?_)
    | (with_reducible refine LeO.bind ?_ (fun _ => ?_))
    | exact ih0 _ _ _ _ _
    | exact ih1 _ _ _ _ _ _
    | exact impl_CutRaws.mono _ _ _ _ _
    | exact impl_DiskOk.mono _ _
    | exact impl_PutRaw.mono _ _ _ _ _ _
    | exact impl_PutRaws.mono _ _ _
    | exact laws_sameDisk.mono _ _ _
    | exact spec_DrawPlaces.mono _ _
    | exact spec_DrawRightDisk.mono _ _
    | exact spec_PutRaws.mono _ _ _
    | exact LeO.none _
    | refine LeO.ite ?_ ?_
    | refine LeO.bind ?_ (fun _ => ?_)
theorem laws_FnRaws.mono : ∀ a0 k, LeO (laws_FnRaws.f k a0) (laws_FnRaws.f (k + 1) a0) := by
 intro a0 k; obtain ⟨ih0, ih1⟩ := laws_FnRaws.mono_l k
 unfold laws_FnRaws.f
 repeat' first
  | (with_reducible exact ih0 _ _ _ _ _)
  | (with_reducible exact ih1 _ _ _ _ _ _)
  | (with_reducible exact impl_CutRaws.mono _ _ _ _ _)
  | (with_reducible exact impl_DiskOk.mono _ _)
  | (with_reducible exact impl_PutRaw.mono _ _ _ _ _ _)
  | (with_reducible exact impl_PutRaws.mono _ _ _)
  | (with_reducible exact laws_sameDisk.mono _ _ _)
  | (with_reducible exact spec_DrawPlaces.mono _ _)
  | (with_reducible exact spec_DrawRightDisk.mono _ _)
  | (with_reducible exact spec_PutRaws.mono _ _ _)
  | (with_reducible exact LeO.refl _)
  | (with_reducible exact LeO.none _)
  | (with_reducible refine LeO.ite ?_ ?_)
  | (with_reducible refine LeO.bind ?_ (fun _ => ?_))
  | exact ih0 _ _ _ _ _
  | exact ih1 _ _ _ _ _ _
  | exact impl_CutRaws.mono _ _ _ _ _
  | exact impl_DiskOk.mono _ _
  | exact impl_PutRaw.mono _ _ _ _ _ _
  | exact impl_PutRaws.mono _ _ _
  | exact laws_sameDisk.mono _ _ _
  | exact spec_DrawPlaces.mono _ _
  | exact spec_DrawRightDisk.mono _ _
  | exact spec_PutRaws.mono _ _ _
  | exact LeO.none _
  | refine LeO.ite ?_ ?_
  | refine LeO.bind ?_ (fun _ => ?_)
def laws_FnRaws.T12 : Bool × List (List Nat × List Nat) := (true, [([], []), ([], []), ([], []), ([1, 2], [1, 2]), ([3], [3]), ([0, 4], [0, 4]), ([5], [5]), ([6], [6]), ([6], [6]), ([], []), ([9, 7, 5, 0, 1, 2, 3, 4, 5, 6, 7, 9], [7, 9]), ([8, 10, 0, 1, 2, 3, 4, 5, 6, 7, 8, 9, 10], [8])])
def laws_FnRaws.B12 : List Nat := [0, 0, 0, 6, 14, 31, 63, 127, 127, 0, 767, 2047]
theorem laws_FnRaws.tab12 : rtab .any (opsOf Try.f7 12) = laws_FnRaws.T12 := by kernel_rfl
theorem laws_FnRaws.bits12 : waitsOk laws_FnRaws.T12.2 laws_FnRaws.B12 = true := by kernel_rfl
def laws_FnRaws.T17 : Bool × List (List Nat × List Nat) := (true, [([], []), ([], []), ([], []), ([1, 2], [1, 2]), ([0, 3], [0, 3]), ([4], [4]), ([5], [5]), ([5], [5]), ([], []), ([8, 6, 4, 0, 1, 2, 3, 4, 5, 6, 8], [6, 8]), ([7, 9, 0, 1, 2, 3, 4, 5, 6, 7, 8, 9], [7])])
def laws_FnRaws.B17 : List Nat := [0, 0, 0, 6, 15, 31, 63, 63, 0, 383, 1023]
theorem laws_FnRaws.tab17 : rtab .any (opsOf Try.f7 17) = laws_FnRaws.T17 := by kernel_rfl
theorem laws_FnRaws.bits17 : waitsOk laws_FnRaws.T17.2 laws_FnRaws.B17 = true := by kernel_rfl
set_option maxHeartbeats 8000000 in
set_option maxRecDepth 100000 in
theorem laws_FnRaws.calls (k : Nat) (A0 : Option Addr) (c0 : Nat) (l0 : List Int) (r : Bool) (w : World) (hr0 : Kd.C (Kd.int .u8) w A0 l0.length l0) (hc0 : l0.length ≤ c0) (h : laws_FnRaws.f k l0 = some r) :
 Calls Try.prog 7 #[.slice A0 l0.length c0] w fun e w' => e = .returned (.bool r) ∧ Below w.heap.size w w' := by
 have hu30 := Try.underlying30; have hu65 := Try.underlying65; have HR0 := Aside0.mk hr0; have HC0 := Aside0.mk hc0; clear hr0 hc0; have HB := Aside0.mk (Below.refl w.heap.size w); have H : ((laws_big.f l0).bind fun t451 => (if t451 = true then (some true) else ((spec_DrawRightDisk.f k l0).bind fun bt452 => ((impl_PutRaws.f k bt452.1 bt452.2).bind fun bt459 => ((spec_PutRaws.f k bt452.1 bt452.2).bind fun bt464 => (if bt459.2 = bt464.2 then (if bt459.2 = (bt452.2.length : Int) then ((laws_sameDisk.f k bt459.1 bt464.1).bind fun t469 => (if t469 = true then ((impl_DiskOk.f k bt459.1).bind fun t470 => (laws_FnRaws.j0 k l0 bt452.2 (!t470) bt452.1 bt459.1)) else (laws_FnRaws.j0 k l0 bt452.2 true bt452.1 bt459.1))) else (laws_FnRaws.j0 k l0 bt452.2 true bt452.1 bt459.1)) else (laws_FnRaws.j0 k l0 bt452.2 true bt452.1 bt459.1))))))) = some r := h; clear h; replace H := Option.bind_eq_some_iff.mp H; obtain ⟨t451, A20, H⟩ := H; replace H : (if t451 = true then (some true) else ((spec_DrawRightDisk.f k l0).bind fun bt452 => ((impl_PutRaws.f k bt452.1 bt452.2).bind fun bt459 => ((spec_PutRaws.f k bt452.1 bt452.2).bind fun bt464 => (if bt459.2 = bt464.2 then (if bt459.2 = (bt452.2.length : Int) then ((laws_sameDisk.f k bt459.1 bt464.1).bind fun t469 => (if t469 = true then ((impl_DiskOk.f k bt459.1).bind fun t470 => (laws_FnRaws.j0 k l0 bt452.2 (!t470) bt452.1 bt459.1)) else (laws_FnRaws.j0 k l0 bt452.2 true bt452.1 bt459.1))) else (laws_FnRaws.j0 k l0 bt452.2 true bt452.1 bt459.1)) else (laws_FnRaws.j0 k l0 bt452.2 true bt452.1 bt459.1)))))) = some r := H; have A2 := Aside0.mk A20; clear A20; by_cases c3 : t451 = true
 · subst c3; have H1 : (some true) = some r := by rw [if_pos rfl] at H; exact H
   clear H; have H := H1; clear H1; obtain rfl := Option.some.inj H; go_enter Try.func7, Try.ntmps7
   go_wp2_with (first | ((with_reducible refine gate_callee (f := 22) rfl ?_); refine goesL_ (some 19) rfl rfl Try.func22 (by kernel_rfl) rfl #[.slice A0 l0.length c0] rfl t0_ ?_; (with_reducible refine (laws_big.calls _ _ l0 true _ ?side1 ?side2 A2.out).mono ?_); (case side1 => repeat (first | exact HR0.out | (with_reducible refine Kd.C_alloc ?_ _) | (with_reducible refine Kd.C_drewN ?_ _) | (with_reducible refine Kd.C_drew ?_))); (case side2 => exact HC0.out); rintro e w' ⟨rfl, ⟨nd, rfl⟩⟩; refine ⟨_, rfl, ?_⟩))
   go_ret; exact ⟨by first | rfl | (simp [errW_none, errW_some] <;> rfl) | (simp [*, errW_none, errW_some] <;> rfl), t1_⟩
 · replace c3 := Bool.eq_false_iff.mpr c3; subst c3; have H1 : ((spec_DrawRightDisk.f k l0).bind fun bt452 => ((impl_PutRaws.f k bt452.1 bt452.2).bind fun bt459 => ((spec_PutRaws.f k bt452.1 bt452.2).bind fun bt464 => (if bt459.2 = bt464.2 then (if bt459.2 = (bt452.2.length : Int) then ((laws_sameDisk.f k bt459.1 bt464.1).bind fun t469 => (if t469 = true then ((impl_DiskOk.f k bt459.1).bind fun t470 => (laws_FnRaws.j0 k l0 bt452.2 (!t470) bt452.1 bt459.1)) else (laws_FnRaws.j0 k l0 bt452.2 true bt452.1 bt459.1))) else (laws_FnRaws.j0 k l0 bt452.2 true bt452.1 bt459.1)) else (laws_FnRaws.j0 k l0 bt452.2 true bt452.1 bt459.1))))) = some r := by rw [if_neg (show ¬ (false = true) by decide)] at H; exact H
   clear H; have H := H1; clear H1; replace H := Option.bind_eq_some_iff.mp H; obtain ⟨⟨t452, t455⟩, A40, H⟩ := H; replace H : ((impl_PutRaws.f k t452 t455).bind fun bt459 => ((spec_PutRaws.f k t452 t455).bind fun bt464 => (if bt459.2 = bt464.2 then (if bt459.2 = (t455.length : Int) then ((laws_sameDisk.f k bt459.1 bt464.1).bind fun t469 => (if t469 = true then ((impl_DiskOk.f k bt459.1).bind fun t470 => (laws_FnRaws.j0 k l0 t455 (!t470) t452 bt459.1)) else (laws_FnRaws.j0 k l0 t455 true t452 bt459.1))) else (laws_FnRaws.j0 k l0 t455 true t452 bt459.1)) else (laws_FnRaws.j0 k l0 t455 true t452 bt459.1)))) = some r := H; have A4 := Aside0.mk A40; clear A40; replace H := Option.bind_eq_some_iff.mp H; obtain ⟨⟨t459, t462⟩, A50, H⟩ := H; replace H : ((spec_PutRaws.f k t452 t455).bind fun bt464 => (if t462 = bt464.2 then (if t462 = (t455.length : Int) then ((laws_sameDisk.f k t459 bt464.1).bind fun t469 => (if t469 = true then ((impl_DiskOk.f k t459).bind fun t470 => (laws_FnRaws.j0 k l0 t455 (!t470) t452 t459)) else (laws_FnRaws.j0 k l0 t455 true t452 t459))) else (laws_FnRaws.j0 k l0 t455 true t452 t459)) else (laws_FnRaws.j0 k l0 t455 true t452 t459))) = some r := H; have A5 := Aside0.mk A50; clear A50; replace H := Option.bind_eq_some_iff.mp H; obtain ⟨⟨t464, t467⟩, A60, H⟩ := H; replace H : (if t462 = t467 then (if t462 = (t455.length : Int) then ((laws_sameDisk.f k t459 t464).bind fun t469 => (if t469 = true then ((impl_DiskOk.f k t459).bind fun t470 => (laws_FnRaws.j0 k l0 t455 (!t470) t452 t459)) else (laws_FnRaws.j0 k l0 t455 true t452 t459))) else (laws_FnRaws.j0 k l0 t455 true t452 t459)) else (laws_FnRaws.j0 k l0 t455 true t452 t459)) = some r := H; have A6 := Aside0.mk A60; clear A60; have HC7 := Aside0.mk H; clear H; go_enter Try.func7, Try.ntmps7
   go_upto_region 6 with (first | ((with_reducible refine gate_callee (f := 22) rfl ?_); refine goesL_ (some 19) rfl rfl Try.func22 (by kernel_rfl) rfl #[.slice A0 l0.length c0] rfl t0_ ?_; (with_reducible refine (laws_big.calls _ _ l0 false _ ?side1 ?side2 A2.out).mono ?_); (case side1 => repeat (first | exact HR0.out | (with_reducible refine Kd.C_alloc ?_ _) | (with_reducible refine Kd.C_drewN ?_ _) | (with_reducible refine Kd.C_drew ?_))); (case side2 => exact HC0.out); rintro e w' ⟨rfl, ⟨nd, rfl⟩⟩; refine ⟨_, rfl, ?_⟩) | ((with_reducible refine gate_callee (f := 29) rfl ?_); refine goesL_ (some 22) rfl rfl Try.func29 (by kernel_rfl) rfl #[.slice A0 l0.length c0] rfl t0_ ?_; (with_reducible refine (spec_DrawRightDisk.calls k _ _ l0 t452 t455 _ ?side1 ?side2 A4.out).mono ?_); (case side1 => repeat (first | exact HR0.out | (with_reducible refine Kd.C_alloc ?_ _) | (with_reducible refine Kd.C_drewN ?_ _) | (with_reducible refine Kd.C_drew ?_))); (case side2 => exact HC0.out); rintro e w8 ⟨v453, v456, rfl, ho0, ho1, hb⟩; refine ⟨_, rfl, ?_⟩; have HO454 := Aside0.mk (Kd.R_lower ho0 (below_size t1_)); have HO457 := Aside0.mk (Kd.R_lower ho1 (below_size t1_)); replace HB := bS t1_ hb; (try clear hb); (try clear ho0); (try clear ho1)) | ((with_reducible refine gate_dst (N := 3) rfl ?_); (try (refine gate_guard (by rfl) ?_; dsimp only)); refine boxE (N := 3) (cs := #[.slice none 0 0]) (t := 30) (h := ?_); intro gb458 hg w9 hbox hb; replace HO454 := Aside0.mk (Kd.R_below t117_ hb); replace HO457 := Aside0.mk (Kd.R_below t118_ hb); have BK458 := Aside0.mk (hbox); have GW458 := Aside0.mk ((t4_ : w.heap.size ≤ gb458)); have GE458 := GW458; replace HB := bS t1_ hb; clear hb hbox hg; obtain ⟨Ao10, co10, eo10⟩ := Kd.R_slice HO454.out; subst eo10; obtain ⟨hcz11_0, hfz11_0⟩ := ba1 BK458; obtain ⟨Ao12, co12, eo12⟩ := Kd.R_slice HO457.out; subst eo12) | ((with_reducible refine gate_callee (f := 31) rfl ?_); refine goesL_ (some 28) rfl rfl Try.func31 (by kernel_rfl) rfl #[.agg #[.slice Ao10 t452.length co10], .slice Ao12 t455.length co12] rfl t0_ ?_; (with_reducible refine (impl_PutRaws.calls k _ _ t452 _ _ t455 t459 t462 _ ?side1 ?side2 ?side3 ?side4 A5.out).mono ?_); (case side1 => refine (Kd.R_reads' (e := 71) (base := w.heap.size) (ok := fun k_ => True) (n := t452.length) (c := co10) ?_).2.2; exact (rF HO454 BK458)); (case side2 => exact (Kd.R_reads' HO454.out).2.1); (case side3 => refine (Kd.R_reads' (e := 65) (base := w.heap.size) (ok := fun k_ => True) (n := t455.length) (c := co12) ?_).2.2; exact (rF HO457 BK458)); (case side4 => exact (Kd.R_reads' HO457.out).2.1); rintro e w13 ⟨v460, rfl, ho0, hb⟩; refine ⟨_, rfl, ?_⟩; replace HO454 := Aside0.mk (Kd.R_below (rF HO454 BK458) hb); replace HO457 := Aside0.mk (Kd.R_below (rF HO457 BK458) hb); have HO461 := Aside0.mk (Kd.R_lower ho0 (below_size t90_)); replace BK458 := Aside0.mk (blk_below (g := gb458) (o := .cells #[.slice Ao10 t452.length co10] 30 (0, 0)) (zP BK458) hb); replace HB := bS t90_ hb; (try clear hb); (try clear ho0)) | ((with_reducible refine gate_dst (N := 5) rfl ?_); (try (refine gate_guard (by rfl) ?_; dsimp only)); refine boxE (N := 5) (cs := #[.slice none 0 0]) (t := 30) (h := ?_); intro gb463 hg w14 hbox hb; replace HO454 := Aside0.mk (Kd.R_below t117_ hb); replace HO457 := Aside0.mk (Kd.R_below t118_ hb); replace HO461 := Aside0.mk (Kd.R_below (zK HO461) hb); have BK463 := Aside0.mk (hbox); have GW463 := Aside0.mk ((by rw [hg]; exact (below_size t90_) : w.heap.size ≤ gb463)); have GE463 := Aside0.mk ((by rw [hg]; exact (below_size t90_) : w.heap.size ≤ gb463)); replace HB := bS t90_ hb; have NB458_463 := nbL BK458 hg; have NB463_458 := nbG BK458 hg; replace BK458 := bkN BK458 hb; clear hb hbox hg; obtain ⟨Ao15, co15, eo15⟩ := Kd.R_slice HO461.out; subst eo15; have hnb16 := NB463_458.out; have hnc16 := NB458_463.out; obtain ⟨hcz17_0, hfz17_0⟩ := ba1 BK463; obtain ⟨hcz18_0, hfz18_0⟩ := ba1 BK458) | ((with_reducible refine gate_callee (f := 39) rfl ?_); refine goesL_ (some 34) rfl rfl Try.func39 (by kernel_rfl) rfl #[.agg #[.slice Ao10 t452.length co10], .slice Ao12 t455.length co12] rfl t0_ ?_; (with_reducible refine (spec_PutRaws.calls k _ _ t452 _ _ t455 t464 t467 _ ?side1 ?side2 ?side3 ?side4 A6.out).mono ?_); (case side1 => refine (Kd.R_reads' (e := 71) (base := w.heap.size) (ok := fun k_ => True) (n := t452.length) (c := co10) ?_).2.2; exact (rF HO454 BK463)); (case side2 => exact (Kd.R_reads' HO454.out).2.1); (case side3 => refine (Kd.R_reads' (e := 65) (base := w.heap.size) (ok := fun k_ => True) (n := t455.length) (c := co12) ?_).2.2; exact (rF HO457 BK463)); (case side4 => exact (Kd.R_reads' HO457.out).2.1); rintro e w19 ⟨v465, rfl, ho0, hb⟩; refine ⟨_, rfl, ?_⟩; replace HO454 := Aside0.mk (Kd.R_below (rF HO454 BK463) hb); replace HO457 := Aside0.mk (Kd.R_below (rF HO457 BK463) hb); replace HO461 := Aside0.mk (Kd.R_below (rF HO461 BK463) hb); have HO466 := Aside0.mk (Kd.R_lower ho0 (below_size t83_)); replace BK458 := bkF BK458 NB458_463 hb; replace BK463 := Aside0.mk (blk_below (g := gb463) (o := .cells #[.slice Ao15 t459.length co15] 30 (0, 0)) (zP BK463) hb); replace HB := bS t83_ hb; (try clear hb); (try clear ho0)) | ((with_reducible refine gate_dst (N := 7) rfl ?_); (try (refine gate_guard (by rfl) ?_; dsimp only)); refine boxE (N := 7) (cs := #[.slice none 0 0]) (t := 30) (h := ?_); intro gb468 hg w20 hbox hb; replace HO454 := Aside0.mk (Kd.R_below t117_ hb); replace HO457 := Aside0.mk (Kd.R_below t118_ hb); replace HO461 := Aside0.mk (Kd.R_below (zK HO461) hb); replace HO466 := Aside0.mk (Kd.R_below (zK HO466) hb); have BK468 := Aside0.mk (hbox); have GW468 := Aside0.mk ((by rw [hg]; exact (below_size t83_) : w.heap.size ≤ gb468)); have GE468 := Aside0.mk ((by rw [hg]; exact (below_size t83_) : w.heap.size ≤ gb468)); replace HB := bS t83_ hb; have NB458_468 := nbL BK458 hg; have NB468_458 := nbG BK458 hg; replace BK458 := bkN BK458 hb; have NB463_468 := nbL BK463 hg; have NB468_463 := nbG BK463 hg; replace BK463 := bkN BK463 hb; clear hb hbox hg; obtain ⟨Ao21, co21, eo21⟩ := Kd.R_slice HO466.out; subst eo21; have hnb22 := NB468_458.out; have hnc22 := NB458_468.out; have hnb23 := NB468_463.out; have hnc23 := NB463_468.out; obtain ⟨hcz24_0, hfz24_0⟩ := ba1 BK468))
   (try simp only [Act.put, List.setIfInBounds_toArray, List.set_cons_zero, List.set_cons_succ])
   go_cut [56] (fun v56 wc => ∃ (kq : Nat) (x56_6 : Bool), v56 = .bool x56_6 ∧ Aside0 (laws_FnRaws.j0 kq l0 t455 x56_6 t452 t459 = some r) ∧ Aside0 (kq ≤ k) ∧ Aside0 (Kd.R k65 65 wc w.heap.size (fun _ => True) (.slice Ao12 t455.length co12) t455) ∧ Aside0 (Kd.R k71 71 wc w.heap.size (fun _ => True) (.slice Ao10 t452.length co10) t452) ∧ Aside0 (Kd.R k71 71 wc w.heap.size (fun _ => True) (.slice Ao15 t459.length co15) t459) ∧ Aside0 (Kd.R k71 71 wc w.heap.size (fun _ => True) (.slice Ao21 t464.length co21) t464) ∧ Aside0 (wc.heap[gb458]? = some (.cells #[(.slice Ao10 t452.length co10)] 30 (0, 0))) ∧ Aside0 (wc.heap[gb463]? = some (.cells #[(.slice Ao15 t459.length co15)] 30 (0, 0))) ∧ Aside0 (wc.heap[gb468]? = some (.cells #[(.slice Ao21 t464.length co21)] 30 (0, 0))) ∧ Aside0 (Below w.heap.size w wc))
   case first =>
    have H := HC7.out; clear HC7; by_cases c25 : t462 = t467
    · rw [if_pos c25] at H; have c25b0 : (t462 == t467) = true := beq_iff_eq.mpr c25; have c25b1 : (t462 != t467) = false := bne_eq_false_iff_eq.mpr c25; clear c25
      (first | rw [c25b0] | (simp only [i64_w, i32_w]; rw [c25b0]) | skip)
      by_cases c26 : t462 = (t455.length : Int)
      · rw [if_pos c26] at H; have c26b0 : (t462 == (t455.length : Int)) = true := beq_iff_eq.mpr c26; have c26b1 : (t462 != (t455.length : Int)) = false := bne_eq_false_iff_eq.mpr c26; clear c26; replace H := Option.bind_eq_some_iff.mp H; obtain ⟨t469, A270, H⟩ := H; replace H : (if t469 = true then ((impl_DiskOk.f k t459).bind fun t470 => (laws_FnRaws.j0 k l0 t455 (!t470) t452 t459)) else (laws_FnRaws.j0 k l0 t455 true t452 t459)) = some r := H; have A27 := Aside0.mk A270; clear A270; by_cases c28 : t469 = true
        · subst c28; have H1 : ((impl_DiskOk.f k t459).bind fun t470 => (laws_FnRaws.j0 k l0 t455 (!t470) t452 t459)) = some r := by rw [if_pos rfl] at H; exact H
          clear H; have H := H1; clear H1; replace H := Option.bind_eq_some_iff.mp H; obtain ⟨t470, A290, H⟩ := H; replace H : (laws_FnRaws.j0 k l0 t455 (!t470) t452 t459) = some r := H; have A29 := Aside0.mk A290; clear A290; have H' := Aside0.mk H; clear H; have hnb30 := NB463_458.out; have hnc30 := NB458_463.out; have hnb31 := NB463_468.out; have hnc31 := NB468_463.out; obtain ⟨hcz32_0, hfz32_0⟩ := ba1 BK463; have hnb33 := NB468_458.out; have hnc33 := NB458_468.out; obtain ⟨hcz34_0, hfz34_0⟩ := ba1 BK468
          go_wp2_with (first | (go_at_call 40; (with_reducible refine (laws_sameDisk.calls k _ _ t459 _ _ t464 true _ ?side1 ?side2 ?side3 ?side4 A27.out).mono ?_); (case side1 => refine (Kd.R_reads' (e := 71) (base := w.heap.size) (ok := fun k_ => True) (n := t459.length) (c := co15) ?_).2.2; exact (rF HO461 BK468)); (case side2 => exact (Kd.R_reads' HO461.out).2.1); (case side3 => refine (Kd.R_reads' (e := 71) (base := w.heap.size) (ok := fun k_ => True) (n := t464.length) (c := co21) ?_).2.2; exact (rF HO466 BK468)); (case side4 => exact (Kd.R_reads' HO466.out).2.1); rintro e w35 ⟨rfl, hb⟩; replace HO454 := Aside0.mk (Kd.R_below (rF HO454 BK468) hb); replace HO457 := Aside0.mk (Kd.R_below (rF HO457 BK468) hb); replace HO461 := Aside0.mk (Kd.R_below (rF HO461 BK468) hb); replace HO466 := Aside0.mk (Kd.R_below (rF HO466 BK468) hb); replace BK458 := bkF BK458 NB458_468 hb; replace BK463 := bkF BK463 NB463_468 hb; replace BK468 := Aside0.mk (blk_below (g := gb468) (o := .cells #[.slice Ao21 t464.length co21] 30 (0, 0)) (zP BK468) hb); replace HB := bS t38_ hb; (try clear hb); obtain ⟨hcz36_0, hfz36_0⟩ := ba1 BK463) | (go_at_call 34; (with_reducible refine (impl_DiskOk.calls k _ _ t459 t470 _ ?side1 ?side2 A29.out).mono ?_); (case side1 => repeat (first | exact (Kd.R_reads' HO461.out).2.2 | (with_reducible refine Kd.C_alloc ?_ _) | (with_reducible refine Kd.C_drewN ?_ _) | (with_reducible refine Kd.C_drew ?_))); (case side2 => exact (Kd.R_reads' HO461.out).2.1); rintro e w37 ⟨rfl, hb⟩; replace HO454 := Aside0.mk (Kd.R_below t117_ hb); replace HO457 := Aside0.mk (Kd.R_below t118_ hb); replace HO461 := Aside0.mk (Kd.R_below (zK HO461) hb); replace HO466 := Aside0.mk (Kd.R_below (zK HO466) hb); replace BK458 := bkN BK458 hb; replace BK463 := bkN BK463 hb; replace BK468 := bkN BK468 hb; replace HB := bS t38_ hb; (try clear hb)))
          go_meet
          case rel => exact ⟨_, (!t470), t28_, H', ⟨by first | omega | exact Nat.le_refl _⟩, ⟨zK HO457⟩, ⟨zK HO454⟩, ⟨zK HO461⟩, ⟨zK HO466⟩, ⟨zN BK458⟩, ⟨zN BK463⟩, ⟨zN BK468⟩, ⟨t38_⟩⟩
        · replace c28 := Bool.eq_false_iff.mpr c28; subst c28; have H1 : (laws_FnRaws.j0 k l0 t455 true t452 t459) = some r := by rw [if_neg (show ¬ (false = true) by decide)] at H; exact H
          clear H; have H := H1; clear H1; have H' := Aside0.mk H; clear H; have hnb38 := NB463_458.out; have hnc38 := NB458_463.out; have hnb39 := NB463_468.out; have hnc39 := NB468_463.out; obtain ⟨hcz40_0, hfz40_0⟩ := ba1 BK463; have hnb41 := NB468_458.out; have hnc41 := NB458_468.out; obtain ⟨hcz42_0, hfz42_0⟩ := ba1 BK468
          go_wp2_with (first | (go_at_call 40; (with_reducible refine (laws_sameDisk.calls k _ _ t459 _ _ t464 false _ ?side1 ?side2 ?side3 ?side4 A27.out).mono ?_); (case side1 => refine (Kd.R_reads' (e := 71) (base := w.heap.size) (ok := fun k_ => True) (n := t459.length) (c := co15) ?_).2.2; exact (rF HO461 BK468)); (case side2 => exact (Kd.R_reads' HO461.out).2.1); (case side3 => refine (Kd.R_reads' (e := 71) (base := w.heap.size) (ok := fun k_ => True) (n := t464.length) (c := co21) ?_).2.2; exact (rF HO466 BK468)); (case side4 => exact (Kd.R_reads' HO466.out).2.1); rintro e w43 ⟨rfl, hb⟩; replace HO454 := Aside0.mk (Kd.R_below (rF HO454 BK468) hb); replace HO457 := Aside0.mk (Kd.R_below (rF HO457 BK468) hb); replace HO461 := Aside0.mk (Kd.R_below (rF HO461 BK468) hb); replace HO466 := Aside0.mk (Kd.R_below (rF HO466 BK468) hb); replace BK458 := bkF BK458 NB458_468 hb; replace BK463 := bkF BK463 NB463_468 hb; replace BK468 := Aside0.mk (blk_below (g := gb468) (o := .cells #[.slice Ao21 t464.length co21] 30 (0, 0)) (zP BK468) hb); replace HB := bS t38_ hb; (try clear hb)))
          go_meet
          case rel => exact ⟨_, (true), t28_, H', ⟨by first | omega | exact Nat.le_refl _⟩, ⟨zK HO457⟩, ⟨zK HO454⟩, ⟨zK HO461⟩, ⟨zK HO466⟩, ⟨zN BK458⟩, ⟨zN BK463⟩, ⟨zN BK468⟩, ⟨t38_⟩⟩
      · rw [if_neg c26] at H; have c26b0 : (t462 == (t455.length : Int)) = false := beq_eq_false_iff_ne.mpr c26; have c26b1 : (t462 != (t455.length : Int)) = true := bne_iff_ne.mpr c26; have H' := Aside0.mk H; clear H; go_wp2; go_meet
        case rel => exact ⟨_, (true), t28_, H', ⟨by first | omega | exact Nat.le_refl _⟩, ⟨rG HO457 BK468⟩, ⟨rG HO454 BK468⟩, ⟨rG HO461 BK468⟩, ⟨rG HO466 BK468⟩, ⟨zF1 BK458 NB458_468⟩, ⟨zF1 BK463 NB463_468⟩, ⟨zP BK468⟩, ⟨t38_⟩⟩
    · rw [if_neg c25] at H; have c25b0 : (t462 == t467) = false := beq_eq_false_iff_ne.mpr c25; have c25b1 : (t462 != t467) = true := bne_iff_ne.mpr c25
      (first | rw [c25b0] | (simp only [i64_w, i32_w]; rw [c25b0]) | skip)
      have H' := Aside0.mk H; clear H; go_wp2; go_meet
      case rel => exact ⟨_, (true), t28_, H', ⟨by first | omega | exact Nat.le_refl _⟩, ⟨rG HO457 BK468⟩, ⟨rG HO454 BK468⟩, ⟨rG HO461 BK468⟩, ⟨rG HO466 BK468⟩, ⟨zF1 BK458 NB458_468⟩, ⟨zF1 BK463 NB463_468⟩, ⟨zP BK468⟩, ⟨t38_⟩⟩
   case rest =>
    clear HC7
    try clear c1
    try clear c2
    try clear p2
    try clear c3
    try clear c4
    try clear c7
    try clear c16
    try clear c22
    try clear c23
    try clear c25
    try clear c25b0
    try clear c25b1
    try clear c26
    try clear c26b0
    try clear c26b1
    try clear c28
    try clear c29
    try clear c30
    try clear c31
    try clear c33
    try clear c38
    try clear c39
    try clear c41
    try clear hcz11_0
    try clear hcz17_0
    try clear hcz18_0
    try clear hcz24_0
    try clear hcz32_0
    try clear hcz34_0
    try clear hcz36_0
    try clear hcz40_0
    try clear hcz42_0
    try clear hfz11_0
    try clear hfz17_0
    try clear hfz18_0
    try clear hfz24_0
    try clear hfz32_0
    try clear hfz34_0
    try clear hfz36_0
    try clear hfz40_0
    try clear hfz42_0
    obtain ⟨kq, x56_6, rfl, HA, HJ6, HO_4, HO_459000, HO_464000, HO_469000, BK458, BK463, BK468, HB⟩ := hcut
    cases kq with
    | zero => exact absurd HA.out (by simp [laws_FnRaws.j0])
    | succ kj6 =>
     have H := HA.out; clear HA; simp only [laws_FnRaws.j0] at H; by_cases c44 : x56_6 = true
     · subst c44; have H1 : (none) = some r := by rw [if_pos rfl] at H; exact H
       clear H; have H := H1; clear H1; exact absurd H (by simp)
     · replace c44 := Bool.eq_false_iff.mpr c44; subst c44; have H1 : (laws_FnRaws.l0 kj6 l0 t455 0 t452 t459 t452) = some r := by rw [if_neg (show ¬ (false = true) by decide)] at H; exact H
       clear H; have H := H1; clear H1; have H' := Aside0.mk H; clear H; have hnb45 := NB458_463.out; have hnc45 := NB463_458.out; have hnb46 := NB458_468.out; have hnc46 := NB468_458.out; obtain ⟨hcz47_0, hfz47_0⟩ := ba1 BK458
       go_wp2_with (first | ((with_reducible refine gate_dst (N := 9) rfl ?_); (try (refine gate_guard (by rfl) ?_; dsimp only)); refine boxE (N := 9) (cs := #[.slice none 0 0]) (t := 30) (h := ?_); intro gb471 hg w48 hbox hb; replace HO_4 := Aside0.mk (Kd.R_below t45_ hb); replace HO_459000 := Aside0.mk (Kd.R_below t50_ hb); replace HO_464000 := Aside0.mk (Kd.R_below t51_ hb); replace HO_469000 := Aside0.mk (Kd.R_below t52_ hb); have BK471 := Aside0.mk (hbox); have GW471 := Aside0.mk ((by rw [hg]; exact (below_size t38_) : w.heap.size ≤ gb471)); have GE471 := Aside0.mk ((by rw [hg]; exact (below_size t38_) : w.heap.size ≤ gb471)); replace HB := bS t38_ hb; have NB458_471 := nbL BK458 hg; have NB471_458 := nbG BK458 hg; replace BK458 := bkN BK458 hb; have NB463_471 := nbL BK463 hg; have NB471_463 := nbG BK463 hg; replace BK463 := bkN BK463 hb; have NB468_471 := nbL BK468 hg; have NB471_468 := nbG BK468 hg; replace BK468 := bkN BK468 hb; clear hb hbox hg; have hnb49 := NB471_458.out; have hnc49 := NB458_471.out; have hnb50 := NB471_463.out; have hnc50 := NB463_471.out; have hnb51 := NB471_468.out; have hnc51 := NB468_471.out; obtain ⟨hcz52_0, hfz52_0⟩ := ba1 BK471))
       go_loopg [10] kj6 (fun kq v10 w' => ∃ (x10_2 : Int) (x472000_2 : List (S71)) (u472000 : Value), v10 = .int .i64 x10_2 ∧ Aside0 (laws_FnRaws.l0 kq l0 t455 x10_2 t452 t459 x472000_2 = some r) ∧ Aside0 (kq ≤ kj6) ∧ Aside0 (Kd.R k65 65 w' w.heap.size (fun _ => True) (.slice Ao12 t455.length co12) t455) ∧ Aside0 (Kd.R k71 71 w' w.heap.size (fun _ => True) (.slice Ao10 t452.length co10) t452) ∧ Aside0 (Kd.R k71 71 w' w.heap.size (fun _ => True) (.slice Ao15 t459.length co15) t459) ∧ Aside0 (Kd.R k71 71 w' w.heap.size (fun _ => True) (.slice Ao21 t464.length co21) t464) ∧ Aside0 (Kd.R k71 71 w' w.heap.size (fun _ => True) u472000 x472000_2) ∧ Aside0 (w'.heap[gb458]? = some (.cells #[(.slice Ao10 t452.length co10)] 30 (0, 0))) ∧ Aside0 (w'.heap[gb463]? = some (.cells #[(.slice Ao15 t459.length co15)] 30 (0, 0))) ∧ Aside0 (w'.heap[gb468]? = some (.cells #[(.slice Ao21 t464.length co21)] 30 (0, 0))) ∧ Aside0 (w'.heap[gb471]? = some (.cells #[u472000] 30 (0, 0))) ∧ Aside0 (Below w.heap.size w w'))
       case atStart => exact ⟨(0), (t452), (.slice Ao10 t452.length co10), t28_, H', ⟨Nat.le_refl _⟩, ⟨rG HO_4 BK471⟩, ⟨rG HO_459000 BK471⟩, ⟨rG HO_464000 BK471⟩, ⟨rG HO_469000 BK471⟩, ⟨rG HO_459000 BK471⟩, ⟨zF1 BK458 NB458_471⟩, ⟨zF1 BK463 NB463_471⟩, ⟨zF1 BK468 NB468_471⟩, ⟨zP BK471⟩, ⟨t19_⟩⟩
       case round =>
        clear H'
        try clear c1
        try clear c2
        try clear p2
        try clear c3
        try clear c4
        try clear c5
        try clear c7
        try clear c16
        try clear c22
        try clear c23
        try clear c25
        try clear c25b0
        try clear c25b1
        try clear c26
        try clear c26b0
        try clear c26b1
        try clear c28
        try clear c29
        try clear c30
        try clear c31
        try clear c33
        try clear c38
        try clear c39
        try clear c41
        try clear c44
        try clear c45
        try clear c46
        try clear c49
        try clear c50
        try clear c51
        try clear hcz11_0
        try clear hcz17_0
        try clear hcz18_0
        try clear hcz24_0
        try clear hcz32_0
        try clear hcz34_0
        try clear hcz36_0
        try clear hcz40_0
        try clear hcz42_0
        try clear hcz47_0
        try clear hcz52_0
        try clear hfz11_0
        try clear hfz17_0
        try clear hfz18_0
        try clear hfz24_0
        try clear hfz32_0
        try clear hfz34_0
        try clear hfz36_0
        try clear hfz40_0
        try clear hfz42_0
        try clear hfz47_0
        try clear hfz52_0
        try clear p2
        obtain ⟨x10_2, x472000_2, u472000, rfl, HA, HK2, HO_4, HO_459000, HO_464000, HO_469000, HO_472000, BK458, BK463, BK468, BK471, HB⟩ := hrel
        cases gk with
        | zero => exact absurd HA.out (by simp [laws_FnRaws.l0])
        | succ k2 =>
         have H := HA.out; clear HA; simp only [laws_FnRaws.l0] at H; by_cases c53 : x10_2 < (t455.length : Int)
         · rw [if_pos c53] at H; have c53b0 : decide (x10_2 < (t455.length : Int)) = true := decide_eq_true c53; clear c53; by_cases c54 : 0 ≤ x10_2
           · rw [if_pos c54] at H; have c54b0 : decide (0 ≤ x10_2) = true := decide_eq_true c54; clear c54; replace H := Option.bind_eq_some_iff.mp H; obtain ⟨⟨t473, t476⟩, A550, H⟩ := H; replace H : (if t476 = true then (laws_FnRaws.l0 k2 l0 t455 (wrap64 (x10_2 + 1)) t452 t459 t473) else (none)) = some r := H; have A55 := Aside0.mk A550; clear A550; by_cases c56 : t476 = true
             · subst c56; have H1 : (laws_FnRaws.l0 k2 l0 t455 (wrap64 (x10_2 + 1)) t452 t459 t473) = some r := by rw [if_pos rfl] at H; exact H
               clear H; have H := H1; clear H1; have H' := Aside0.mk H; clear H; obtain ⟨Ao57, co57, eo57⟩ := Kd.R_slice HO_472000.out; subst eo57
               try go_wp2
               replace HO_4 := Aside0.mk (Kd.R_drew HO_4.out); replace HO_459000 := Aside0.mk (Kd.R_drew HO_459000.out); replace HO_464000 := Aside0.mk (Kd.R_drew HO_464000.out); replace HO_469000 := Aside0.mk (Kd.R_drew HO_469000.out); replace HO_472000 := Aside0.mk (Kd.R_drew HO_472000.out); replace BK458 := Aside0.mk (blk_drew BK458.out); replace BK463 := Aside0.mk (blk_drew BK463.out); replace BK468 := Aside0.mk (blk_drew BK468.out); replace BK471 := Aside0.mk (blk_drew BK471.out); replace HB := Aside0.mk (below_drew1 HB.out); have p472 : 0 ≤ (x10_2 : Int) := of_decide_eq_true t8_; have q472 : x10_2 < (t455.length : Int) := of_decide_eq_true t8_; obtain ⟨ad472, e472, hx472_0, hx472_1, hx472_2, hx472_3⟩ := at_T65 (Kd.R_reads' HO_4.out).2.2 x10_2 p472 q472
               cases e472
               replace p472 := eq_true p472; replace q472 := eq_true q472; refine start_ (n := 12) (S := fun w' => w'.cell? ⟨gb471, 0, none⟩ = some (.slice Ao57 x472000_2.length co57) ∧ w'.cell? (ad472.add ((x10_2).toNat * 4)) = some (.int .i64 ((rd_T65 t455 x10_2).f0)) ∧ w'.cell? ⟨(ad472.add ((x10_2).toNat * 4)).block, (ad472.add ((x10_2).toNat * 4)).off + 1, none⟩ = some (.string ((rd_T65 t455 x10_2).f1)) ∧ w'.cell? ⟨(ad472.add ((x10_2).toNat * 4)).block, (ad472.add ((x10_2).toNat * 4)).off + 2, none⟩ = some (.string ((rd_T65 t455 x10_2).f2)) ∧ w'.cell? ⟨(ad472.add ((x10_2).toNat * 4)).block, (ad472.add ((x10_2).toNat * 4)).off + 3, none⟩ = some (.string ((rd_T65 t455 x10_2).f3))) (ds := []) #[false, false, false, false, false, false, false, false, false, false, false, false] (by kernel_rfl) rfl rfl ⟨bc0 BK471, hx472_0, hx472_1, hx472_2, hx472_3⟩ (fun hHeld => ?_); refine with_tabW laws_FnRaws.tab12 laws_FnRaws.bits12 (fun HT_ HW_ => ?_)
               generalize wr.drew = w58 at HO_4 HO_459000 HO_464000 HO_469000 HO_472000 BK458 BK463 BK468 BK471 HB hx472_0 hx472_1 hx472_2 hx472_3 hHeld ⊢; refine pure_ (i := 1) (N := some 66) (v := ?_) (a' := ?_) #[false, true, false, false, false, false, false, false, false, false, false, false] rfl rfl (any_of HT_.out (by kernel_rfl)) (fun _ _ _ h => h) (Or.inl ⟨by rfl, ?_⟩) ?_ ?_
               rotate_left
               · intro w'; go_simp; with_reducible rfl
               rotate_left
               · simp only [Act.put, ps1, ps2, ps3, i64_w, i32_w]; rfl
               refine pure_ (i := 2) (N := some 67) (v := ?_) (a' := ?_) #[false, true, true, false, false, false, false, false, false, false, false, false] rfl rfl (any_of HT_.out (by kernel_rfl)) (fun _ _ _ h => h) (Or.inl ⟨by rfl, ?_⟩) ?_ ?_
               rotate_left
               · intro w'; go_simp; with_reducible rfl
               rotate_left
               · simp only [Act.put, ps1, ps2, ps3, i64_w, i32_w]; rfl
               refine pure_ (i := 3) (N := some 68) (v := ?_) (a' := ?_) #[false, true, true, true, false, false, false, false, false, false, false, false] rfl rfl (any_of HT_.out (by kernel_rfl)) (fun _ _ _ h => h) (Or.inl ⟨by rfl, ?_⟩) ?_ ?_
               rotate_left
               · intro w'; go_simp; with_reducible rfl
               rotate_left
               · simp only [Act.put, ps1, ps2, ps3, i64_w, i32_w]; rfl
               refine take_ (i := 0) (N := some 65) (v := ?_) (a' := ?_) #[true, true, true, true, false, false, false, false, false, false, false, false] rfl rfl (take_ofW HT_.out HW_.out (by kernel_rfl)) (fun _ _ _ h => h) (Or.inl ⟨by rfl, ?_⟩) hHeld ?_ ?_
               rotate_left
               · rintro w' ⟨s0, s1, s2, s3, s4⟩; go_simp; with_reducible rfl
               rotate_left
               · simp only [Act.put, ps1, ps2, ps3, i64_w, i32_w]; rfl
               refine take_ (i := 4) (N := some 69) (v := ?_) (a' := ?_) #[true, true, true, true, true, false, false, false, false, false, false, false] rfl rfl (take_ofW HT_.out HW_.out (by kernel_rfl)) (fun _ _ _ h => h) (Or.inl ⟨by rfl, ?_⟩) hHeld ?_ ?_
               rotate_left
               · rintro w' ⟨s0, s1, s2, s3, s4⟩; go_simp; with_reducible rfl
               rotate_left
               · simp only [Act.put, ps1, ps2, ps3, i64_w, i32_w]; rfl
               refine join_ (σ := Value × Nat) 2 #[true, true, true, true, true, true, true, true, true, true, false, false] (fun s_ => [(70, .tuple #[.agg #[s_.1], .bool true]), (11, .pointer (some ⟨s_.2, 0, none⟩)), (64, .tuple #[.agg #[s_.1], .bool true]), (71, .agg #[s_.1]), (72, .bool true)]) (fun s_ w' => (w'.cell? ⟨gb471, 0, none⟩ = some (.slice Ao57 x472000_2.length co57) ∧ w'.cell? (ad472.add ((x10_2).toNat * 4)) = some (.int .i64 ((rd_T65 t455 x10_2).f0)) ∧ w'.cell? ⟨(ad472.add ((x10_2).toNat * 4)).block, (ad472.add ((x10_2).toNat * 4)).off + 1, none⟩ = some (.string ((rd_T65 t455 x10_2).f1)) ∧ w'.cell? ⟨(ad472.add ((x10_2).toNat * 4)).block, (ad472.add ((x10_2).toNat * 4)).off + 2, none⟩ = some (.string ((rd_T65 t455 x10_2).f2)) ∧ w'.cell? ⟨(ad472.add ((x10_2).toNat * 4)).block, (ad472.add ((x10_2).toNat * 4)).off + 3, none⟩ = some (.string ((rd_T65 t455 x10_2).f3))) ∧ (Kd.R k71 71 w' w.heap.size (fun _ => True) s_.1 t473) ∧ (Kd.R k65 65 w' w.heap.size (fun _ => True) (.slice (some ad472) t455.length co12) t455) ∧ (Kd.R k71 71 w' w.heap.size (fun _ => True) (.slice Ao10 t452.length co10) t452) ∧ (Kd.R k71 71 w' w.heap.size (fun _ => True) (.slice Ao15 t459.length co15) t459) ∧ (Kd.R k71 71 w' w.heap.size (fun _ => True) (.slice Ao21 t464.length co21) t464) ∧ (Kd.R k71 71 w' w.heap.size (fun _ => True) (.slice Ao57 x472000_2.length co57) x472000_2) ∧ (w'.heap[gb458]? = some (.cells #[.slice Ao10 t452.length co10] 30 (0, 0))) ∧ (w'.heap[gb463]? = some (.cells #[.slice Ao15 t459.length co15] 30 (0, 0))) ∧ (w'.heap[gb468]? = some (.cells #[.slice Ao21 t464.length co21] 30 (0, 0))) ∧ (w'.heap[gb471]? = some (.cells #[.slice Ao57 x472000_2.length co57] 30 (0, 0))) ∧ (w'.heap[s_.2]? = some (.cells #[.slice none 0 0] 30 (0, 0))) ∧ (w.heap.size ≤ s_.2) ∧ (w.heap.size ≤ s_.2) ∧ (gb458 ≠ s_.2) ∧ (s_.2 ≠ gb458) ∧ (gb463 ≠ s_.2) ∧ (s_.2 ≠ gb463) ∧ (gb468 ≠ s_.2) ∧ (s_.2 ≠ gb468) ∧ (gb471 ≠ s_.2) ∧ (s_.2 ≠ gb471) ∧ (Below w.heap.size w w')) ?_ ?_
               rotate_left
               · intro hCont; refine two_ (i := 5) (j := 9) (Ni := some 70) (Nj := some 11) #[true, true, true, true, true, true, false, false, false, false, false, false] #[true, true, true, true, true, false, false, false, false, true, false, false] rfl rfl rfl rfl (two_of HT_.out (by kernel_rfl)) (by decide) (by decide) (fun K hK => ?_) (fun K hK => ?_)
                 · skip
                   refine goes_ Try.func38 (by kernel_rfl) rfl #[.agg #[.slice Ao57 x472000_2.length co57], .agg #[.int .i64 ((rd_T65 t455 x10_2).f0), .string ((rd_T65 t455 x10_2).f1), .string ((rd_T65 t455 x10_2).f2), .string ((rd_T65 t455 x10_2).f3)]] (by rfl) rfl rfl t0_ ?_
                   with_reducible refine (impl_PutRaw.calls k2 _ _ x472000_2 ((rd_T65 t455 x10_2).f0) ((rd_T65 t455 x10_2).f1) ((rd_T65 t455 x10_2).f2) ((rd_T65 t455 x10_2).f3) t473 true _ ?side1 ?side2 A55.out).mono ?_
                   (case side1 => repeat (first | exact (Kd.R_reads' HO_472000.out).2.2 | (with_reducible refine Kd.C_alloc ?_ _) | (with_reducible refine Kd.C_drewN ?_ _) | (with_reducible refine Kd.C_drew ?_)))
                   (case side2 => exact (Kd.R_reads' HO_472000.out).2.1)
                   rintro e w59 ⟨v474, rfl, ho0, hb⟩; have HS1_ := (hb.cell (World.block_lt_of_cell? _ _ (hHeld.2.1))).trans (hHeld.2.1); have HS2_ := (hb.cell (World.block_lt_of_cell? _ _ (hHeld.2.2.1))).trans (hHeld.2.2.1); have HS3_ := (hb.cell (World.block_lt_of_cell? _ _ (hHeld.2.2.2.1))).trans (hHeld.2.2.2.1); have HS4_ := (hb.cell (World.block_lt_of_cell? _ _ (hHeld.2.2.2.2))).trans (hHeld.2.2.2.2); refine ⟨_, rfl, ?_⟩
                   replace HO_4 := Aside0.mk (Kd.R_below t45_ hb); replace HO_459000 := Aside0.mk (Kd.R_below t50_ hb); replace HO_464000 := Aside0.mk (Kd.R_below t51_ hb); replace HO_469000 := Aside0.mk (Kd.R_below t52_ hb); replace HO_472000 := Aside0.mk (Kd.R_below t55_ hb); have HO475 := Aside0.mk (Kd.R_lower ho0 (below_size t19_)); replace BK458 := bkN BK458 hb; replace BK463 := bkN BK463 hb; replace BK468 := bkN BK468 hb; replace BK471 := bkN BK471 hb; replace HB := bS t19_ hb
                   (try clear hb)
                   (try clear hb2)
                   (try clear hk)
                   (try clear hi)
                   (try clear ho0)
                   refine hK.out _ _ ⟨bc0 BK471, HS1_, HS2_, HS3_, HS4_⟩ (fun hHeld => ?_)
                   clear hK K; refine norm_ (a' := ?_) ?_ ?_
                   rotate_left
                   · show Act.put _ (some 70) _ = _
                     simp only [Act.put, ps1, ps2, ps3, i64_w, i32_w]; rfl
                   refine pure_ (i := 6) (N := some 64) (v := ?_) (a' := ?_) #[true, true, true, true, true, true, true, false, false, false, false, false] rfl rfl (any_of HT_.out (by kernel_rfl)) (fun _ _ _ h => h) (Or.inl ⟨by rfl, ?_⟩) ?_ ?_
                   rotate_left
                   · intro w'; go_simp; with_reducible rfl
                   rotate_left
                   · simp only [Act.put, ps1, ps2, ps3, i64_w, i32_w]; rfl
                   refine pure_ (i := 7) (N := some 71) (v := ?_) (a' := ?_) #[true, true, true, true, true, true, true, true, false, false, false, false] rfl rfl (any_of HT_.out (by kernel_rfl)) (fun _ _ _ h => h) (Or.inl ⟨by rfl, ?_⟩) ?_ ?_
                   rotate_left
                   · intro w'; go_simp; with_reducible rfl
                   rotate_left
                   · simp only [Act.put, ps1, ps2, ps3, i64_w, i32_w]; rfl
                   refine pure_ (i := 8) (N := some 72) (v := ?_) (a' := ?_) #[true, true, true, true, true, true, true, true, true, false, false, false] rfl rfl (any_of HT_.out (by kernel_rfl)) (fun _ _ _ h => h) (Or.inl ⟨by rfl, ?_⟩) ?_ ?_
                   rotate_left
                   · intro w'; go_simp; with_reducible rfl
                   rotate_left
                   · simp only [Act.put, ps1, ps2, ps3, i64_w, i32_w]; rfl
                   refine one_ (i := 9) (N := some 11) #[true, true, true, true, true, true, true, true, true, true, false, false] rfl rfl (one_of HT_.out (by kernel_rfl)) (by decide) (fun K hK => ?_)
                   refine box_step ?hg (N := 11) ?hd (cs := #[.slice none 0 0]) (t := 30) ?hr ?_; (case hd => rfl); (case hg => rfl); (case hr => first | (go_simp; done) | (go_simp; rfl))
                   intro gb477 hg w60 hbox hb; have HS1_ := (hb.cell (World.block_lt_of_cell? _ _ (hHeld.2.1))).trans (hHeld.2.1); have HS2_ := (hb.cell (World.block_lt_of_cell? _ _ (hHeld.2.2.1))).trans (hHeld.2.2.1); have HS3_ := (hb.cell (World.block_lt_of_cell? _ _ (hHeld.2.2.2.1))).trans (hHeld.2.2.2.1); have HS4_ := (hb.cell (World.block_lt_of_cell? _ _ (hHeld.2.2.2.2))).trans (hHeld.2.2.2.2); replace HO_4 := Aside0.mk (Kd.R_below t45_ hb); replace HO_459000 := Aside0.mk (Kd.R_below t50_ hb); replace HO_464000 := Aside0.mk (Kd.R_below t51_ hb); replace HO_469000 := Aside0.mk (Kd.R_below t52_ hb); replace HO_472000 := Aside0.mk (Kd.R_below t55_ hb); replace HO475 := Aside0.mk (Kd.R_below (zK HO475) hb); have BK477 := Aside0.mk (hbox); have GW477 := Aside0.mk ((t37_ : w.heap.size ≤ gb477)); have GE477 := GW477; replace HB := bS t19_ hb; have NB458_477 := nbL BK458 hg; have NB477_458 := nbG BK458 hg; replace BK458 := bkN BK458 hb; have NB463_477 := nbL BK463 hg; have NB477_463 := nbG BK463 hg; replace BK463 := bkN BK463 hb; have NB468_477 := nbL BK468 hg; have NB477_468 := nbG BK468 hg; replace BK468 := bkN BK468 hb; have NB471_477 := nbL BK471 hg; have NB477_471 := nbG BK471 hg; replace BK471 := bkN BK471 hb; clear hb hbox hg; refine hK.out _ _ ⟨bc0 BK471, HS1_, HS2_, HS3_, HS4_⟩ (fun hHeld => ?_)
                   clear hK K; refine norm_ (a' := ?_) ?_ ?_
                   rotate_left
                   · show Act.put _ (some 11) _ = _
                     simp only [Act.put, ps1, ps2, ps3, i64_w, i32_w]; rfl
                   exact norm_ t94_ (hCont (v474, gb477) _ ⟨hHeld, (zK HO475), t45_, t50_, t51_, t52_, t55_, t110_, t111_, t112_, t113_, (zN BK477), GW477.out, GE477.out, NB458_477.out, NB477_458.out, NB463_477.out, NB477_463.out, NB468_477.out, NB477_468.out, NB471_477.out, NB477_471.out, t57_⟩)
                 · skip
                   refine box_step ?hg (N := 11) ?hd (cs := #[.slice none 0 0]) (t := 30) ?hr ?_; (case hd => rfl); (case hg => rfl); (case hr => first | (go_simp; done) | (go_simp; rfl))
                   intro gb477 hg w59 hbox hb; have HS1_ := (hb.cell (World.block_lt_of_cell? _ _ (hHeld.2.1))).trans (hHeld.2.1); have HS2_ := (hb.cell (World.block_lt_of_cell? _ _ (hHeld.2.2.1))).trans (hHeld.2.2.1); have HS3_ := (hb.cell (World.block_lt_of_cell? _ _ (hHeld.2.2.2.1))).trans (hHeld.2.2.2.1); have HS4_ := (hb.cell (World.block_lt_of_cell? _ _ (hHeld.2.2.2.2))).trans (hHeld.2.2.2.2); replace HO_4 := Aside0.mk (Kd.R_below t45_ hb); replace HO_459000 := Aside0.mk (Kd.R_below t50_ hb); replace HO_464000 := Aside0.mk (Kd.R_below t51_ hb); replace HO_469000 := Aside0.mk (Kd.R_below t52_ hb); replace HO_472000 := Aside0.mk (Kd.R_below t55_ hb); have BK477 := Aside0.mk (hbox); have GW477 := Aside0.mk ((t37_ : w.heap.size ≤ gb477)); have GE477 := GW477; replace HB := bS t19_ hb; have NB458_477 := nbL BK458 hg; have NB477_458 := nbG BK458 hg; replace BK458 := bkN BK458 hb; have NB463_477 := nbL BK463 hg; have NB477_463 := nbG BK463 hg; replace BK463 := bkN BK463 hb; have NB468_477 := nbL BK468 hg; have NB477_468 := nbG BK468 hg; replace BK468 := bkN BK468 hb; have NB471_477 := nbL BK471 hg; have NB477_471 := nbG BK471 hg; replace BK471 := bkN BK471 hb; clear hb hbox hg; refine hK.out _ _ ⟨bc0 BK471, HS1_, HS2_, HS3_, HS4_⟩ (fun hHeld => ?_)
                   clear hK K; refine norm_ (a' := ?_) ?_ ?_
                   rotate_left
                   · show Act.put _ (some 11) _ = _
                     simp only [Act.put, ps1, ps2, ps3, i64_w, i32_w]; rfl
                   refine one_ (i := 5) (N := some 70) #[true, true, true, true, true, true, false, false, false, true, false, false] rfl rfl (one_of HT_.out (by kernel_rfl)) (by decide) (fun K hK => ?_)
                   refine goes_ Try.func38 (by kernel_rfl) rfl #[.agg #[.slice Ao57 x472000_2.length co57], .agg #[.int .i64 ((rd_T65 t455 x10_2).f0), .string ((rd_T65 t455 x10_2).f1), .string ((rd_T65 t455 x10_2).f2), .string ((rd_T65 t455 x10_2).f3)]] (by rfl) rfl rfl t0_ ?_
                   with_reducible refine (impl_PutRaw.calls k2 _ _ x472000_2 ((rd_T65 t455 x10_2).f0) ((rd_T65 t455 x10_2).f1) ((rd_T65 t455 x10_2).f2) ((rd_T65 t455 x10_2).f3) t473 true _ ?side1 ?side2 A55.out).mono ?_
                   (case side1 => repeat (first | exact (Kd.R_reads' HO_472000.out).2.2 | (with_reducible refine Kd.C_alloc ?_ _) | (with_reducible refine Kd.C_drewN ?_ _) | (with_reducible refine Kd.C_drew ?_)))
                   (case side2 => exact (Kd.R_reads' HO_472000.out).2.1)
                   rintro e w60 ⟨v474, rfl, ho0, hb⟩; have HS1_ := (hb.cell (World.block_lt_of_cell? _ _ (hHeld.2.1))).trans (hHeld.2.1); have HS2_ := (hb.cell (World.block_lt_of_cell? _ _ (hHeld.2.2.1))).trans (hHeld.2.2.1); have HS3_ := (hb.cell (World.block_lt_of_cell? _ _ (hHeld.2.2.2.1))).trans (hHeld.2.2.2.1); have HS4_ := (hb.cell (World.block_lt_of_cell? _ _ (hHeld.2.2.2.2))).trans (hHeld.2.2.2.2); refine ⟨_, rfl, ?_⟩
                   replace HO_4 := Aside0.mk (Kd.R_below t45_ hb); replace HO_459000 := Aside0.mk (Kd.R_below t50_ hb); replace HO_464000 := Aside0.mk (Kd.R_below t51_ hb); replace HO_469000 := Aside0.mk (Kd.R_below t52_ hb); replace HO_472000 := Aside0.mk (Kd.R_below t55_ hb); have HO475 := Aside0.mk (Kd.R_lower ho0 (below_size t57_)); replace BK458 := bkN BK458 hb; replace BK463 := bkN BK463 hb; replace BK468 := bkN BK468 hb; replace BK471 := bkN BK471 hb; replace BK477 := bkN BK477 hb; replace HB := bS t57_ hb
                   (try clear hb)
                   (try clear hb2)
                   (try clear hk)
                   (try clear hi)
                   (try clear ho0)
                   refine hK.out _ _ ⟨bc0 BK471, HS1_, HS2_, HS3_, HS4_⟩ (fun hHeld => ?_)
                   clear hK K; refine norm_ (a' := ?_) ?_ ?_
                   rotate_left
                   · show Act.put _ (some 70) _ = _
                     simp only [Act.put, ps1, ps2, ps3, i64_w, i32_w]; rfl
                   refine pure_ (i := 6) (N := some 64) (v := ?_) (a' := ?_) #[true, true, true, true, true, true, true, false, false, true, false, false] rfl rfl (any_of HT_.out (by kernel_rfl)) (fun _ _ _ h => h) (Or.inl ⟨by rfl, ?_⟩) ?_ ?_
                   rotate_left
                   · intro w'; go_simp; with_reducible rfl
                   rotate_left
                   · simp only [Act.put, ps1, ps2, ps3, i64_w, i32_w]; rfl
                   refine pure_ (i := 7) (N := some 71) (v := ?_) (a' := ?_) #[true, true, true, true, true, true, true, true, false, true, false, false] rfl rfl (any_of HT_.out (by kernel_rfl)) (fun _ _ _ h => h) (Or.inl ⟨by rfl, ?_⟩) ?_ ?_
                   rotate_left
                   · intro w'; go_simp; with_reducible rfl
                   rotate_left
                   · simp only [Act.put, ps1, ps2, ps3, i64_w, i32_w]; rfl
                   refine pure_ (i := 8) (N := some 72) (v := ?_) (a' := ?_) #[true, true, true, true, true, true, true, true, true, true, false, false] rfl rfl (any_of HT_.out (by kernel_rfl)) (fun _ _ _ h => h) (Or.inl ⟨by rfl, ?_⟩) ?_ ?_
                   rotate_left
                   · intro w'; go_simp; with_reducible rfl
                   rotate_left
                   · simp only [Act.put, ps1, ps2, ps3, i64_w, i32_w]; rfl
                   exact norm_ t94_ (hCont (v474, gb477) _ ⟨hHeld, (zK HO475), t45_, t50_, t51_, t52_, t55_, t110_, t111_, t112_, t113_, (zN BK477), GW477.out, GE477.out, NB458_477.out, NB477_458.out, NB463_477.out, NB477_463.out, NB468_477.out, NB477_468.out, NB471_477.out, NB477_471.out, t57_⟩)
               rintro ⟨v474, gb477⟩ w61 ⟨hS_, h0_, h1_, h2_, h3_, h4_, h5_, h6_, h7_, h8_, h9_, h10_, h11_, h12_, h13_, h14_, h15_, h16_, h17_, h18_, h19_, h20_, h21_⟩; have n0_ : Aside0 (Kd.R k71 71 w61 w.heap.size (fun _ => True) v474 t473) := ⟨h0_⟩; have n1_ : Aside0 (Kd.R k65 65 w61 w.heap.size (fun _ => True) (.slice (some ad472) t455.length co12) t455) := ⟨h1_⟩; have n2_ : Aside0 (Kd.R k71 71 w61 w.heap.size (fun _ => True) (.slice Ao10 t452.length co10) t452) := ⟨h2_⟩; have n3_ : Aside0 (Kd.R k71 71 w61 w.heap.size (fun _ => True) (.slice Ao15 t459.length co15) t459) := ⟨h3_⟩; have n4_ : Aside0 (Kd.R k71 71 w61 w.heap.size (fun _ => True) (.slice Ao21 t464.length co21) t464) := ⟨h4_⟩; have n5_ : Aside0 (Kd.R k71 71 w61 w.heap.size (fun _ => True) (.slice Ao57 x472000_2.length co57) x472000_2) := ⟨h5_⟩; have n6_ : Aside0 (w61.heap[gb458]? = some (.cells #[.slice Ao10 t452.length co10] 30 (0, 0))) := ⟨h6_⟩; have n7_ : Aside0 (w61.heap[gb463]? = some (.cells #[.slice Ao15 t459.length co15] 30 (0, 0))) := ⟨h7_⟩; have n8_ : Aside0 (w61.heap[gb468]? = some (.cells #[.slice Ao21 t464.length co21] 30 (0, 0))) := ⟨h8_⟩; have n9_ : Aside0 (w61.heap[gb471]? = some (.cells #[.slice Ao57 x472000_2.length co57] 30 (0, 0))) := ⟨h9_⟩; have n10_ : Aside0 (w61.heap[gb477]? = some (.cells #[.slice none 0 0] 30 (0, 0))) := ⟨h10_⟩; have n11_ : Aside0 (w.heap.size ≤ gb477) := ⟨h11_⟩; have n12_ : Aside0 (w.heap.size ≤ gb477) := ⟨h12_⟩; have n13_ : Aside0 (gb458 ≠ gb477) := ⟨h13_⟩; have n14_ : Aside0 (gb477 ≠ gb458) := ⟨h14_⟩; have n15_ : Aside0 (gb463 ≠ gb477) := ⟨h15_⟩; have n16_ : Aside0 (gb477 ≠ gb463) := ⟨h16_⟩; have n17_ : Aside0 (gb468 ≠ gb477) := ⟨h17_⟩; have n18_ : Aside0 (gb477 ≠ gb468) := ⟨h18_⟩; have n19_ : Aside0 (gb471 ≠ gb477) := ⟨h19_⟩; have n20_ : Aside0 (gb477 ≠ gb471) := ⟨h20_⟩; have n21_ : Aside0 (Below w.heap.size w w61) := ⟨h21_⟩; clear HO_4; clear HO_459000; clear HO_464000; clear HO_469000; clear HO_472000; clear BK458; clear BK463; clear BK468; clear BK471; clear HB; clear h0_ h1_ h2_ h3_ h4_ h5_ h6_ h7_ h8_ h9_ h10_ h11_ h12_ h13_ h14_ h15_ h16_ h17_ h18_ h19_ h20_ h21_; have HO475 := n0_; have HO_4 := n1_; have HO_459000 := n2_; have HO_464000 := n3_; have HO_469000 := n4_; have HO_472000 := n5_; have BK458 := n6_; have BK463 := n7_; have BK468 := n8_; have BK471 := n9_; have BK477 := n10_; have GW477 := n11_; have GE477 := n12_; have NB458_477 := n13_; have NB477_458 := n14_; have NB463_477 := n15_; have NB477_463 := n16_; have NB468_477 := n17_; have NB477_468 := n18_; have NB471_477 := n19_; have NB477_471 := n20_; have HB := n21_; clear n0_ n1_ n2_ n3_ n4_ n5_ n6_ n7_ n8_ n9_ n10_ n11_ n12_ n13_ n14_ n15_ n16_ n17_ n18_ n19_ n20_ n21_; have hHeld : w61.cell? ⟨gb471, 0, none⟩ = some (.slice Ao57 x472000_2.length co57) ∧ w61.cell? (ad472.add ((x10_2).toNat * 4)) = some (.int .i64 ((rd_T65 t455 x10_2).f0)) ∧ w61.cell? ⟨(ad472.add ((x10_2).toNat * 4)).block, (ad472.add ((x10_2).toNat * 4)).off + 1, none⟩ = some (.string ((rd_T65 t455 x10_2).f1)) ∧ w61.cell? ⟨(ad472.add ((x10_2).toNat * 4)).block, (ad472.add ((x10_2).toNat * 4)).off + 2, none⟩ = some (.string ((rd_T65 t455 x10_2).f2)) ∧ w61.cell? ⟨(ad472.add ((x10_2).toNat * 4)).block, (ad472.add ((x10_2).toNat * 4)).off + 3, none⟩ = some (.string ((rd_T65 t455 x10_2).f3)) := hS_
               obtain ⟨Ao62, co62, eo62⟩ := Kd.R_slice HO475.out
               (first | subst eo62 | (injection eo62 with f1_ f2_ f3_; have f4_ := f1_.symm; have f5_ := f3_.symm; clear f1_ f2_ f3_; subst f4_; subst f5_))
               refine norm_ (a' := ?_) ?_ ?_
               rotate_left
               · simp only [putAll, Act.put, List.setIfInBounds_toArray, List.set_cons_zero, List.set_cons_succ]; rfl
               refine one_ (i := 10) (N := none) #[true, true, true, true, true, true, true, true, true, true, true, false] rfl rfl (one_of HT_.out (by kernel_rfl)) (by decide) (fun K hK => ?_)
               have hs63 : w61.cell? ⟨gb477, 0, none⟩ = some (.slice none 0 0) := bc0 BK477; have hfs63 := bf BK477 0; have hns63_0 := NB458_477.out; have hns63_1 := NB463_477.out; have hns63_2 := NB468_477.out; have hns63_3 := NB471_477.out; have hms63_0 := NB477_458.out; have hms63_1 := NB477_463.out; have hms63_2 := NB477_468.out; have hms63_3 := NB477_471.out; refine skip_ (w1 := ?_) (by rfl) rfl ?_ ?_
               rotate_left
               · go_simp; rfl
               refine hK.out _ _ ⟨((cell_far (p := ⟨gb477, _, none⟩) NB471_477.out _).trans (hHeld.1)), ((cell_far (p := ⟨gb477, _, none⟩) (by first | exact Kd.own_blk (Kd.R_ne HO_4.out BK477.out (by decide)) | (rw [add_block]; exact Kd.own_blk (Kd.R_ne HO_4.out BK477.out (by decide))) | (show (Addr.add _ _).block ≠ _; rw [add_block]; exact Kd.own_blk (Kd.R_ne HO_4.out BK477.out (by decide))) | (dsimp only; exact Kd.own_blk (Kd.R_ne HO_4.out BK477.out (by decide)))) _).trans (hHeld.2.1)), ((cell_far (p := ⟨gb477, _, none⟩) (by first | exact Kd.own_blk (Kd.R_ne HO_4.out BK477.out (by decide)) | (rw [add_block]; exact Kd.own_blk (Kd.R_ne HO_4.out BK477.out (by decide))) | (show (Addr.add _ _).block ≠ _; rw [add_block]; exact Kd.own_blk (Kd.R_ne HO_4.out BK477.out (by decide))) | (dsimp only; exact Kd.own_blk (Kd.R_ne HO_4.out BK477.out (by decide)))) _).trans (hHeld.2.2.1)), ((cell_far (p := ⟨gb477, _, none⟩) (by first | exact Kd.own_blk (Kd.R_ne HO_4.out BK477.out (by decide)) | (rw [add_block]; exact Kd.own_blk (Kd.R_ne HO_4.out BK477.out (by decide))) | (show (Addr.add _ _).block ≠ _; rw [add_block]; exact Kd.own_blk (Kd.R_ne HO_4.out BK477.out (by decide))) | (dsimp only; exact Kd.own_blk (Kd.R_ne HO_4.out BK477.out (by decide)))) _).trans (hHeld.2.2.2.1)), ((cell_far (p := ⟨gb477, _, none⟩) (by first | exact Kd.own_blk (Kd.R_ne HO_4.out BK477.out (by decide)) | (rw [add_block]; exact Kd.own_blk (Kd.R_ne HO_4.out BK477.out (by decide))) | (show (Addr.add _ _).block ≠ _; rw [add_block]; exact Kd.own_blk (Kd.R_ne HO_4.out BK477.out (by decide))) | (dsimp only; exact Kd.own_blk (Kd.R_ne HO_4.out BK477.out (by decide)))) _).trans (hHeld.2.2.2.2))⟩ (fun hHeld => ?_)
               clear hK K; refine pure_ (i := 11) (N := some 12) (v := ?_) (a' := ?_) #[true, true, true, true, true, true, true, true, true, true, true, true] rfl rfl (any_of HT_.out (by kernel_rfl)) (fun _ _ _ h => h) (Or.inl ⟨by rfl, ?_⟩) ?_ ?_
               rotate_left
               · intro w'; go_simp; with_reducible rfl
               rotate_left
               · simp only [Act.put, ps1, ps2, ps3, i64_w, i32_w]; rfl
               refine done_ (done_of HT_.out (by kernel_rfl)) ?_
               have hnb64 := NB477_458.out; have hnc64 := NB458_477.out; have hnb65 := NB477_463.out; have hnc65 := NB463_477.out; have hnb66 := NB477_468.out; have hnc66 := NB468_477.out; have hnb67 := NB477_471.out; have hnc67 := NB471_477.out; obtain ⟨hcz68_0, hfz68_0⟩ := ba1 BK477; have hnb69 := NB471_458.out; have hnc69 := NB458_471.out; have hnb70 := NB471_463.out; have hnc70 := NB463_471.out; have hnb71 := NB471_468.out; have hnc71 := NB468_471.out; obtain ⟨hcz72_0, hfz72_0⟩ := ba1 BK471
               try go_wp2
               go_roundg k2
               case measure => have := HJ6.out; have := HK2.out; omega
               case rel => exact ⟨(wrap64 (x10_2 + 1)), (t473), (.slice Ao62 t473.length co62), t28_, H', ⟨by have := HJ6.out; have := HK2.out; omega⟩, ⟨by (with_reducible repeat (first | apply Kd.R_alloc | apply Kd.R_drewN | apply Kd.R_drew)); exact Kd.R_mono (Kd.R_far (p := ⟨gb471, 0, none⟩) (Kd.R_far (p := ⟨gb477, 0, none⟩) (Kd.R_types (Kd.R_types HO_4.out BK477.out (by decide)) BK471.out (by decide)) (fun _ hk => hk.1.2) (.slice Ao62 t473.length co62)) (fun _ hk => hk.2) (.slice Ao62 t473.length co62)) (fun _ hk => trivial)⟩, ⟨by (with_reducible repeat (first | apply Kd.R_alloc | apply Kd.R_drewN | apply Kd.R_drew)); exact Kd.R_mono (Kd.R_far (p := ⟨gb471, 0, none⟩) (Kd.R_far (p := ⟨gb477, 0, none⟩) (Kd.R_types (Kd.R_types HO_459000.out BK477.out (by decide)) BK471.out (by decide)) (fun _ hk => hk.1.2) (.slice Ao62 t473.length co62)) (fun _ hk => hk.2) (.slice Ao62 t473.length co62)) (fun _ hk => trivial)⟩, ⟨by (with_reducible repeat (first | apply Kd.R_alloc | apply Kd.R_drewN | apply Kd.R_drew)); exact Kd.R_mono (Kd.R_far (p := ⟨gb471, 0, none⟩) (Kd.R_far (p := ⟨gb477, 0, none⟩) (Kd.R_types (Kd.R_types HO_464000.out BK477.out (by decide)) BK471.out (by decide)) (fun _ hk => hk.1.2) (.slice Ao62 t473.length co62)) (fun _ hk => hk.2) (.slice Ao62 t473.length co62)) (fun _ hk => trivial)⟩, ⟨by (with_reducible repeat (first | apply Kd.R_alloc | apply Kd.R_drewN | apply Kd.R_drew)); exact Kd.R_mono (Kd.R_far (p := ⟨gb471, 0, none⟩) (Kd.R_far (p := ⟨gb477, 0, none⟩) (Kd.R_types (Kd.R_types HO_469000.out BK477.out (by decide)) BK471.out (by decide)) (fun _ hk => hk.1.2) (.slice Ao62 t473.length co62)) (fun _ hk => hk.2) (.slice Ao62 t473.length co62)) (fun _ hk => trivial)⟩, ⟨by (with_reducible repeat (first | apply Kd.R_alloc | apply Kd.R_drewN | apply Kd.R_drew)); exact Kd.R_mono (Kd.R_far (p := ⟨gb471, 0, none⟩) (Kd.R_far (p := ⟨gb477, 0, none⟩) (Kd.R_types (Kd.R_types HO475.out BK477.out (by decide)) BK471.out (by decide)) (fun _ hk => hk.1.2) (.slice Ao62 t473.length co62)) (fun _ hk => hk.2) (.slice Ao62 t473.length co62)) (fun _ hk => trivial)⟩, ⟨zF2 BK458 NB458_471 NB458_477⟩, ⟨zF2 BK463 NB463_471 NB463_477⟩, ⟨zF2 BK468 NB468_471 NB468_477⟩, ⟨zPF BK471 NB471_477⟩, ⟨t57_⟩⟩
             · replace c56 := Bool.eq_false_iff.mpr c56; subst c56; have H1 : (none) = some r := by rw [if_neg (show ¬ (false = true) by decide)] at H; exact H
               clear H; have H := H1; clear H1; exact absurd H (by simp)
           · rw [if_neg c54] at H; exact absurd H (by simp)
         · rw [if_neg c53] at H; have c53b0 : decide (x10_2 < (t455.length : Int)) = false := decide_eq_false c53; clear c53; replace H := Option.bind_eq_some_iff.mp H; obtain ⟨t478, A730, H⟩ := H; replace H : (if 0 < (t478.length : Int) then (if (wrap64 ((t455.length : Int) + 1)) = 0 then (none) else (if 0 ≤ (Int.tmod (rd t478 0) (wrap64 ((t455.length : Int) + 1))) then (if (Int.tmod (rd t478 0) (wrap64 ((t455.length : Int) + 1))) ≤ (t455.length : Int) then ((impl_PutRaws.f k2 t452 (t455.take ((Int.tmod (rd t478 0) (wrap64 ((t455.length : Int) + 1))) : Int).toNat)).bind fun bt486 => ((impl_CutRaws.f k2 t452 t455 (Int.tmod (rd t478 0) (wrap64 ((t455.length : Int) + 1))) 0).bind fun bt491 => (if bt491.2 = true then ((laws_sameDisk.f k2 x472000_2 t459).bind fun t496 => (if t496 = true then ((laws_sameDisk.f k2 bt491.1 bt486.1).bind fun t497 => (some t497)) else (none))) else (none)))) else (none)) else (none))) else (none)) = some r := H; have A73 := Aside0.mk A730; clear A730; by_cases c74 : 0 < (t478.length : Int)
           · rw [if_pos c74] at H; have c74b0 : decide (0 < (t478.length : Int)) = true := decide_eq_true c74; have c74b1 : decide (0 < t478.length) = true := decide_eq_true (by omega); clear c74; by_cases c75 : (wrap64 ((t455.length : Int) + 1)) = 0
             · rw [if_pos c75] at H; exact absurd H (by simp)
             · rw [if_neg c75] at H; have c75b0 : ((wrap64 ((t455.length : Int) + 1)) == 0) = false := beq_eq_false_iff_ne.mpr c75; have c75b1 : ((wrap64 ((t455.length : Int) + 1)) != 0) = true := bne_iff_ne.mpr c75; obtain ⟨ji76, hji76⟩ : ∃ j_ : Int, (Int.tmod (rd t478 0) (wrap64 ((t455.length : Int) + 1))) = j_ := ⟨_, rfl⟩; replace H : (if 0 ≤ (ji76) then (if (ji76) ≤ (t455.length : Int) then ((impl_PutRaws.f k2 t452 (t455.take ((ji76) : Int).toNat)).bind fun bt486 => ((impl_CutRaws.f k2 t452 t455 (ji76) 0).bind fun bt491 => (if bt491.2 = true then ((laws_sameDisk.f k2 x472000_2 t459).bind fun t496 => (if t496 = true then ((laws_sameDisk.f k2 bt491.1 bt486.1).bind fun t497 => (some t497)) else (none))) else (none)))) else (none)) else (none)) = some r := by first | (rw [hji76] at H; exact H) | (simp only [hji76] at H ⊢; exact H)
               (try rw [hji76] at A73)
               by_cases c77 : 0 ≤ (ji76)
               · rw [if_pos c77] at H; have c77b0 := eq_true c77; have c77b1 : decide (0 ≤ (ji76)) = true := decide_eq_true c77; clear c77; by_cases c78 : (ji76) ≤ (t455.length : Int)
                 · rw [if_pos c78] at H; have c78b0 := eq_true c78; have c78b1 : decide ((ji76) ≤ (t455.length : Int)) = true := decide_eq_true c78; clear c78; obtain ⟨y482, hy482⟩ : ∃ y_ : List (S65), y_ = (t455.take ((ji76) : Int).toNat) := ⟨_, rfl⟩; replace H : ((impl_PutRaws.f k2 t452 y482).bind fun bt486 => ((impl_CutRaws.f k2 t452 t455 (ji76) 0).bind fun bt491 => (if bt491.2 = true then ((laws_sameDisk.f k2 x472000_2 t459).bind fun t496 => (if t496 = true then ((laws_sameDisk.f k2 bt491.1 bt486.1).bind fun t497 => (some t497)) else (none))) else (none)))) = some r := by first | (rw [hy482]; with_reducible exact H) | (have H2_ := (Option.bind_some _ _).symm.trans H; rw [hy482]; with_reducible exact H2_) | (have H2_ := (Option.bind_some _ _).symm.trans H; with_reducible exact H2_) | with_reducible exact H | (rw [hy482]; exact H) | exact H
                   have Ny482 := Aside0.mk hy482; clear hy482; replace H := Option.bind_eq_some_iff.mp H; obtain ⟨⟨t486, t489⟩, A790, H⟩ := H; replace H : ((impl_CutRaws.f k2 t452 t455 (ji76) 0).bind fun bt491 => (if bt491.2 = true then ((laws_sameDisk.f k2 x472000_2 t459).bind fun t496 => (if t496 = true then ((laws_sameDisk.f k2 bt491.1 t486).bind fun t497 => (some t497)) else (none))) else (none))) = some r := H; have A79 := Aside0.mk A790; clear A790; replace H := Option.bind_eq_some_iff.mp H; obtain ⟨⟨t491, t494⟩, A800, H⟩ := H; replace H : (if t494 = true then ((laws_sameDisk.f k2 x472000_2 t459).bind fun t496 => (if t496 = true then ((laws_sameDisk.f k2 t491 t486).bind fun t497 => (some t497)) else (none))) else (none)) = some r := H; have A80 := Aside0.mk A800; clear A800; by_cases c81 : t494 = true
                   · subst c81; have H1 : ((laws_sameDisk.f k2 x472000_2 t459).bind fun t496 => (if t496 = true then ((laws_sameDisk.f k2 t491 t486).bind fun t497 => (some t497)) else (none))) = some r := by rw [if_pos rfl] at H; exact H
                     clear H; have H := H1; clear H1; replace H := Option.bind_eq_some_iff.mp H; obtain ⟨t496, A820, H⟩ := H; replace H : (if t496 = true then ((laws_sameDisk.f k2 t491 t486).bind fun t497 => (some t497)) else (none)) = some r := H; have A82 := Aside0.mk A820; clear A820; by_cases c83 : t496 = true
                     · subst c83; have H1 : ((laws_sameDisk.f k2 t491 t486).bind fun t497 => (some t497)) = some r := by rw [if_pos rfl] at H; exact H
                       clear H; have H := H1; clear H1; replace H := Option.bind_eq_some_iff.mp H; obtain ⟨t497, A840, H⟩ := H; replace H : (some t497) = some r := H; have A84 := Aside0.mk A840; clear A840; obtain rfl := Option.some.inj H
                       try go_wp2_with (first | ((with_reducible refine gate_callee (f := 30) rfl ?_); refine goesL_ (some 77) rfl rfl Try.func30 (by kernel_rfl) rfl #[.slice A0 l0.length c0] rfl t0_ ?_; (with_reducible refine (spec_DrawPlaces.calls k2 _ _ l0 t478 _ ?side1 ?side2 A73.out).mono ?_); (case side1 => exact cB HR0 HB); (case side2 => exact HC0.out); rintro e w85 ⟨v479, rfl, ho0, hb⟩; refine ⟨_, rfl, ?_⟩; replace HO_4 := Aside0.mk (Kd.R_below t45_ hb); replace HO_459000 := Aside0.mk (Kd.R_below t50_ hb); replace HO_464000 := Aside0.mk (Kd.R_below t51_ hb); replace HO_469000 := Aside0.mk (Kd.R_below t52_ hb); replace HO_472000 := Aside0.mk (Kd.R_below t55_ hb); have HO480 := Aside0.mk (Kd.R_lower ho0 (below_size t19_)); replace BK458 := bkN BK458 hb; replace BK463 := bkN BK463 hb; replace BK468 := bkN BK468 hb; replace BK471 := bkN BK471 hb; replace HB := bS t19_ hb; (try clear hb); (try clear ho0); obtain ⟨Ao86, co86, eo86⟩ := Kd.R_slice HO480.out; subst eo86; have p481 : 0 ≤ (0 : Int) := (by omega); have q481 : 0 < (t478.length : Int) := of_decide_eq_true t8_; obtain ⟨ad481, e481, hx481_0⟩ := Kd.at_int (Kd.R_reads' HO480.out).2.2 0 p481 q481; cases e481; have qi481 : (0 < t478.length) = True := eq_true (by omega); (try rw [show ((0 : Int)).toNat = 0 from rfl] at hx481_0); (try rw [Addr.add_zero'] at hx481_0); replace p481 := eq_true p481; replace q481 := eq_true q481))
                       replace HO_4 := Aside0.mk (Kd.R_drew HO_4.out); replace HO_459000 := Aside0.mk (Kd.R_drew HO_459000.out); replace HO_464000 := Aside0.mk (Kd.R_drew HO_464000.out); replace HO_469000 := Aside0.mk (Kd.R_drew HO_469000.out); replace HO_472000 := Aside0.mk (Kd.R_drew HO_472000.out); replace HO480 := Aside0.mk (Kd.R_drew HO480.out); replace BK458 := Aside0.mk (blk_drew BK458.out); replace BK463 := Aside0.mk (blk_drew BK463.out); replace BK468 := Aside0.mk (blk_drew BK468.out); replace BK471 := Aside0.mk (blk_drew BK471.out); replace HB := Aside0.mk (below_drew1 HB.out); have q88 : ((ji76) : Int) ≤ ((t455.length : Int) : Int) := of_decide_eq_true t8_; obtain ⟨i088, hi088, _, hsz88, _⟩ := info_parts info65; have hroom88 : t455.length ≤ co12 := (Kd.R_reads' HO_4.out).2.1; have hC88 : Kd.C k65 _ Ao12 t455.length t455 := (Kd.R_reads' HO_4.out).2.2; have hcut88 := cut_to (P := Try.prog) 34 65 .i64 Try.underlying34 hi088 Ao12 t455.length co12 (ji76) (of_decide_eq_true t8_) q88 hroom88; have hr88 := Kd.C_take (m := ((ji76) : Int).toNat) hC88 (by omega); have hy88 : y482.length = ((ji76) : Int).toNat := (by rw [Ny482.out, List.length_take]; omega); rw [← Ny482.out] at hr88; rw [← hy88] at hcut88; have HR485 := Aside0.mk hr88; have HC485 := Aside0.mk (show y482.length ≤ co12 from by omega); clear hr88 hC88 hroom88 hi088 hsz88; have KY88 := Aside0.mk hy88; clear hy88; have KL88 := Aside0.mk (show ((ji76) : Int).toNat ≤ t455.length from by omega); replace q88 := eq_true q88; refine start_ (n := 11) (S := fun w' => w'.cell? ⟨gb458, 0, none⟩ = some (.slice Ao10 t452.length co10)) (ds := []) #[false, false, false, false, false, false, false, false, false, false, false] (by kernel_rfl) rfl rfl (bc0 BK458) (fun hHeld => ?_); refine with_tabW laws_FnRaws.tab17 laws_FnRaws.bits17 (fun HT_ HW_ => ?_)
                       generalize w85.drew = w87 at HO_4 HO_459000 HO_464000 HO_469000 HO_472000 HO480 BK458 BK463 BK468 BK471 HB HR485 hHeld ⊢; refine pure_ (i := 1) (N := some 86) (v := ?_) (a' := ?_) #[false, true, false, false, false, false, false, false, false, false, false] rfl rfl (any_of HT_.out (by kernel_rfl)) (fun _ _ _ h => h) (Or.inl ⟨by rfl, ?_⟩) ?_ ?_
                       rotate_left
                       · intro w'; go_simp; with_reducible rfl
                       rotate_left
                       · simp only [Act.put, ps1, ps2, ps3, i64_w, i32_w]; rfl
                       refine pure_ (i := 2) (N := some 87) (v := ?_) (a' := ?_) #[false, true, true, false, false, false, false, false, false, false, false] rfl rfl (any_of HT_.out (by kernel_rfl)) (fun _ _ _ h => h) (Or.inl ⟨by rfl, ?_⟩) ?_ ?_
                       rotate_left
                       · intro w'; go_simp; with_reducible rfl
                       rotate_left
                       · simp only [Act.put, ps1, ps2, ps3, i64_w, i32_w]; rfl
                       refine pure_ (i := 3) (N := some 88) (v := ?_) (a' := ?_) #[false, true, true, true, false, false, false, false, false, false, false] rfl rfl (any_of HT_.out (by kernel_rfl)) (fun _ _ _ h => h) (Or.inl ⟨by rfl, ?_⟩) ?_ ?_
                       rotate_left
                       · intro w'; go_simp; with_reducible rfl
                       rotate_left
                       · simp only [Act.put, ps1, ps2, ps3, i64_w, i32_w]; rfl
                       refine take_ (i := 0) (N := some 85) (v := ?_) (a' := ?_) #[true, true, true, true, false, false, false, false, false, false, false] rfl rfl (take_ofW HT_.out HW_.out (by kernel_rfl)) (fun _ _ _ h => h) (Or.inl ⟨by rfl, ?_⟩) hHeld ?_ ?_
                       rotate_left
                       · intro w' s0; go_simp; with_reducible rfl
                       rotate_left
                       · simp only [Act.put, ps1, ps2, ps3, i64_w, i32_w]; rfl
                       refine join_ (σ := Value × Nat) 2 #[true, true, true, true, true, true, true, true, true, false, false] (fun s_ => [(89, .tuple #[.agg #[s_.1], .int .i64 t489]), (14, .pointer (some ⟨s_.2, 0, none⟩)), (84, .tuple #[.agg #[s_.1], .int .i64 t489]), (90, .agg #[s_.1]), (91, .int .i64 t489)]) (fun s_ w' => (w'.cell? ⟨gb458, 0, none⟩ = some (.slice Ao10 t452.length co10)) ∧ (Kd.R (Kd.int .i64) 3 w' w.heap.size (fun _ => True) (.slice (some ad481) t478.length co86) t478) ∧ (Kd.R k71 71 w' w.heap.size (fun _ => True) s_.1 t486) ∧ (Kd.R k65 65 w' w.heap.size (fun _ => True) (.slice Ao12 t455.length co12) t455) ∧ (Kd.R k71 71 w' w.heap.size (fun _ => True) (.slice Ao10 t452.length co10) t452) ∧ (Kd.R k71 71 w' w.heap.size (fun _ => True) (.slice Ao15 t459.length co15) t459) ∧ (Kd.R k71 71 w' w.heap.size (fun _ => True) (.slice Ao21 t464.length co21) t464) ∧ (Kd.R k71 71 w' w.heap.size (fun _ => True) u472000 x472000_2) ∧ (w'.heap[gb458]? = some (.cells #[.slice Ao10 t452.length co10] 30 (0, 0))) ∧ (w'.heap[gb463]? = some (.cells #[.slice Ao15 t459.length co15] 30 (0, 0))) ∧ (w'.heap[gb468]? = some (.cells #[.slice Ao21 t464.length co21] 30 (0, 0))) ∧ (w'.heap[gb471]? = some (.cells #[u472000] 30 (0, 0))) ∧ (w'.heap[s_.2]? = some (.cells #[.slice none 0 0] 30 (0, 0))) ∧ (w.heap.size ≤ s_.2) ∧ (w.heap.size ≤ s_.2) ∧ (gb458 ≠ s_.2) ∧ (s_.2 ≠ gb458) ∧ (gb463 ≠ s_.2) ∧ (s_.2 ≠ gb463) ∧ (gb468 ≠ s_.2) ∧ (s_.2 ≠ gb468) ∧ (gb471 ≠ s_.2) ∧ (s_.2 ≠ gb471) ∧ (Below w.heap.size w w')) ?_ ?_
                       rotate_left
                       · intro hCont; refine two_ (i := 4) (j := 8) (Ni := some 89) (Nj := some 14) #[true, true, true, true, true, false, false, false, false, false, false] #[true, true, true, true, false, false, false, false, true, false, false] rfl rfl rfl rfl (two_of HT_.out (by kernel_rfl)) (by decide) (by decide) (fun K hK => ?_) (fun K hK => ?_)
                         · skip
                           refine goes_ Try.func31 (by kernel_rfl) rfl #[.agg #[.slice Ao10 t452.length co10], .slice Ao12 y482.length co12] (by rfl) rfl rfl t0_ ?_
                           with_reducible refine (impl_PutRaws.calls k2 _ _ t452 _ _ y482 t486 t489 _ ?side1 ?side2 ?side3 ?side4 A79.out).mono ?_
                           (case side1 => repeat (first | exact (Kd.R_reads' HO_459000.out).2.2 | (with_reducible refine Kd.C_alloc ?_ _) | (with_reducible refine Kd.C_drewN ?_ _) | (with_reducible refine Kd.C_drew ?_)))
                           (case side2 => exact (Kd.R_reads' HO_459000.out).2.1)
                           (case side3 => repeat (first | exact t75_ | (with_reducible refine Kd.C_alloc ?_ _) | (with_reducible refine Kd.C_drewN ?_ _) | (with_reducible refine Kd.C_drew ?_)))
                           (case side4 => exact HC485.out)
                           rintro e w89 ⟨v487, rfl, ho0, hb⟩; refine ⟨_, rfl, ?_⟩
                           replace HO_4 := Aside0.mk (Kd.R_below t45_ hb); replace HO_459000 := Aside0.mk (Kd.R_below t50_ hb); replace HO_464000 := Aside0.mk (Kd.R_below t51_ hb); replace HO_469000 := Aside0.mk (Kd.R_below t52_ hb); replace HO_472000 := Aside0.mk (Kd.R_below t55_ hb); replace HO480 := Aside0.mk (Kd.R_below t88_ hb); have HO488 := Aside0.mk (Kd.R_lower ho0 (below_size t19_)); replace BK458 := bkN BK458 hb; replace BK463 := bkN BK463 hb; replace BK468 := bkN BK468 hb; replace BK471 := bkN BK471 hb; replace HR485 := Aside0.mk (Kd.C_below t75_ hb); replace HB := bS t19_ hb
                           (try clear hb)
                           (try clear hb2)
                           (try clear hk)
                           (try clear hi)
                           (try clear ho0)
                           refine hK.out _ _ (bc0 BK458) (fun hHeld => ?_)
                           clear hK K; refine norm_ (a' := ?_) ?_ ?_
                           rotate_left
                           · show Act.put _ (some 89) _ = _
                             simp only [Act.put, ps1, ps2, ps3, i64_w, i32_w]; rfl
                           refine pure_ (i := 5) (N := some 84) (v := ?_) (a' := ?_) #[true, true, true, true, true, true, false, false, false, false, false] rfl rfl (any_of HT_.out (by kernel_rfl)) (fun _ _ _ h => h) (Or.inl ⟨by rfl, ?_⟩) ?_ ?_
                           rotate_left
                           · intro w'; go_simp; with_reducible rfl
                           rotate_left
                           · simp only [Act.put, ps1, ps2, ps3, i64_w, i32_w]; rfl
                           refine pure_ (i := 6) (N := some 90) (v := ?_) (a' := ?_) #[true, true, true, true, true, true, true, false, false, false, false] rfl rfl (any_of HT_.out (by kernel_rfl)) (fun _ _ _ h => h) (Or.inl ⟨by rfl, ?_⟩) ?_ ?_
                           rotate_left
                           · intro w'; go_simp; with_reducible rfl
                           rotate_left
                           · simp only [Act.put, ps1, ps2, ps3, i64_w, i32_w]; rfl
                           refine pure_ (i := 7) (N := some 91) (v := ?_) (a' := ?_) #[true, true, true, true, true, true, true, true, false, false, false] rfl rfl (any_of HT_.out (by kernel_rfl)) (fun _ _ _ h => h) (Or.inl ⟨by rfl, ?_⟩) ?_ ?_
                           rotate_left
                           · intro w'; go_simp; with_reducible rfl
                           rotate_left
                           · simp only [Act.put, ps1, ps2, ps3, i64_w, i32_w]; rfl
                           refine one_ (i := 8) (N := some 14) #[true, true, true, true, true, true, true, true, true, false, false] rfl rfl (one_of HT_.out (by kernel_rfl)) (by decide) (fun K hK => ?_)
                           refine box_step ?hg (N := 14) ?hd (cs := #[.slice none 0 0]) (t := 30) ?hr ?_; (case hd => rfl); (case hg => rfl); (case hr => first | (go_simp; done) | (go_simp; rfl))
                           intro gb490 hg w90 hbox hb; replace HO_4 := Aside0.mk (Kd.R_below t45_ hb); replace HO_459000 := Aside0.mk (Kd.R_below t50_ hb); replace HO_464000 := Aside0.mk (Kd.R_below t51_ hb); replace HO_469000 := Aside0.mk (Kd.R_below t52_ hb); replace HO_472000 := Aside0.mk (Kd.R_below t55_ hb); replace HO480 := Aside0.mk (Kd.R_below t88_ hb); replace HO488 := Aside0.mk (Kd.R_below t107_ hb); replace HR485 := Aside0.mk (Kd.C_below t75_ hb); have BK490 := Aside0.mk (hbox); have GW490 := Aside0.mk ((t37_ : w.heap.size ≤ gb490)); have GE490 := GW490; replace HB := bS t19_ hb; have NB458_490 := nbL BK458 hg; have NB490_458 := nbG BK458 hg; replace BK458 := bkN BK458 hb; have NB463_490 := nbL BK463 hg; have NB490_463 := nbG BK463 hg; replace BK463 := bkN BK463 hb; have NB468_490 := nbL BK468 hg; have NB490_468 := nbG BK468 hg; replace BK468 := bkN BK468 hb; have NB471_490 := nbL BK471 hg; have NB490_471 := nbG BK471 hg; replace BK471 := bkN BK471 hb; clear hb hbox hg; refine hK.out _ _ (bc0 BK458) (fun hHeld => ?_)
                           clear hK K; refine norm_ (a' := ?_) ?_ ?_
                           rotate_left
                           · show Act.put _ (some 14) _ = _
                             simp only [Act.put, ps1, ps2, ps3, i64_w, i32_w]; rfl
                           exact norm_ t94_ (hCont (v487, gb490) _ ⟨hHeld, t88_, t107_, t45_, t50_, t51_, t52_, t55_, t110_, t111_, t112_, t113_, (zN BK490), GW490.out, GE490.out, NB458_490.out, NB490_458.out, NB463_490.out, NB490_463.out, NB468_490.out, NB490_468.out, NB471_490.out, NB490_471.out, t31_⟩)
                         · skip
                           refine box_step ?hg (N := 14) ?hd (cs := #[.slice none 0 0]) (t := 30) ?hr ?_; (case hd => rfl); (case hg => rfl); (case hr => first | (go_simp; done) | (go_simp; rfl))
                           intro gb490 hg w89 hbox hb; replace HO_4 := Aside0.mk (Kd.R_below t45_ hb); replace HO_459000 := Aside0.mk (Kd.R_below t50_ hb); replace HO_464000 := Aside0.mk (Kd.R_below t51_ hb); replace HO_469000 := Aside0.mk (Kd.R_below t52_ hb); replace HO_472000 := Aside0.mk (Kd.R_below t55_ hb); replace HO480 := Aside0.mk (Kd.R_below t88_ hb); replace HR485 := Aside0.mk (Kd.C_below t75_ hb); have BK490 := Aside0.mk (hbox); have GW490 := Aside0.mk ((t37_ : w.heap.size ≤ gb490)); have GE490 := GW490; replace HB := bS t19_ hb; have NB458_490 := nbL BK458 hg; have NB490_458 := nbG BK458 hg; replace BK458 := bkN BK458 hb; have NB463_490 := nbL BK463 hg; have NB490_463 := nbG BK463 hg; replace BK463 := bkN BK463 hb; have NB468_490 := nbL BK468 hg; have NB490_468 := nbG BK468 hg; replace BK468 := bkN BK468 hb; have NB471_490 := nbL BK471 hg; have NB490_471 := nbG BK471 hg; replace BK471 := bkN BK471 hb; clear hb hbox hg; refine hK.out _ _ (bc0 BK458) (fun hHeld => ?_)
                           clear hK K; refine norm_ (a' := ?_) ?_ ?_
                           rotate_left
                           · show Act.put _ (some 14) _ = _
                             simp only [Act.put, ps1, ps2, ps3, i64_w, i32_w]; rfl
                           refine one_ (i := 4) (N := some 89) #[true, true, true, true, true, false, false, false, true, false, false] rfl rfl (one_of HT_.out (by kernel_rfl)) (by decide) (fun K hK => ?_)
                           refine goes_ Try.func31 (by kernel_rfl) rfl #[.agg #[.slice Ao10 t452.length co10], .slice Ao12 y482.length co12] (by rfl) rfl rfl t0_ ?_
                           with_reducible refine (impl_PutRaws.calls k2 _ _ t452 _ _ y482 t486 t489 _ ?side1 ?side2 ?side3 ?side4 A79.out).mono ?_
                           (case side1 => repeat (first | exact (Kd.R_reads' HO_459000.out).2.2 | (with_reducible refine Kd.C_alloc ?_ _) | (with_reducible refine Kd.C_drewN ?_ _) | (with_reducible refine Kd.C_drew ?_)))
                           (case side2 => exact (Kd.R_reads' HO_459000.out).2.1)
                           (case side3 => repeat (first | exact t75_ | (with_reducible refine Kd.C_alloc ?_ _) | (with_reducible refine Kd.C_drewN ?_ _) | (with_reducible refine Kd.C_drew ?_)))
                           (case side4 => exact HC485.out)
                           rintro e w90 ⟨v487, rfl, ho0, hb⟩; refine ⟨_, rfl, ?_⟩
                           replace HO_4 := Aside0.mk (Kd.R_below t45_ hb); replace HO_459000 := Aside0.mk (Kd.R_below t50_ hb); replace HO_464000 := Aside0.mk (Kd.R_below t51_ hb); replace HO_469000 := Aside0.mk (Kd.R_below t52_ hb); replace HO_472000 := Aside0.mk (Kd.R_below t55_ hb); replace HO480 := Aside0.mk (Kd.R_below t88_ hb); have HO488 := Aside0.mk (Kd.R_lower ho0 (below_size t31_)); replace BK458 := bkN BK458 hb; replace BK463 := bkN BK463 hb; replace BK468 := bkN BK468 hb; replace BK471 := bkN BK471 hb; replace HR485 := Aside0.mk (Kd.C_below t75_ hb); replace BK490 := bkN BK490 hb; replace HB := bS t31_ hb
                           (try clear hb)
                           (try clear hb2)
                           (try clear hk)
                           (try clear hi)
                           (try clear ho0)
                           refine hK.out _ _ (bc0 BK458) (fun hHeld => ?_)
                           clear hK K; refine norm_ (a' := ?_) ?_ ?_
                           rotate_left
                           · show Act.put _ (some 89) _ = _
                             simp only [Act.put, ps1, ps2, ps3, i64_w, i32_w]; rfl
                           refine pure_ (i := 5) (N := some 84) (v := ?_) (a' := ?_) #[true, true, true, true, true, true, false, false, true, false, false] rfl rfl (any_of HT_.out (by kernel_rfl)) (fun _ _ _ h => h) (Or.inl ⟨by rfl, ?_⟩) ?_ ?_
                           rotate_left
                           · intro w'; go_simp; with_reducible rfl
                           rotate_left
                           · simp only [Act.put, ps1, ps2, ps3, i64_w, i32_w]; rfl
                           refine pure_ (i := 6) (N := some 90) (v := ?_) (a' := ?_) #[true, true, true, true, true, true, true, false, true, false, false] rfl rfl (any_of HT_.out (by kernel_rfl)) (fun _ _ _ h => h) (Or.inl ⟨by rfl, ?_⟩) ?_ ?_
                           rotate_left
                           · intro w'; go_simp; with_reducible rfl
                           rotate_left
                           · simp only [Act.put, ps1, ps2, ps3, i64_w, i32_w]; rfl
                           refine pure_ (i := 7) (N := some 91) (v := ?_) (a' := ?_) #[true, true, true, true, true, true, true, true, true, false, false] rfl rfl (any_of HT_.out (by kernel_rfl)) (fun _ _ _ h => h) (Or.inl ⟨by rfl, ?_⟩) ?_ ?_
                           rotate_left
                           · intro w'; go_simp; with_reducible rfl
                           rotate_left
                           · simp only [Act.put, ps1, ps2, ps3, i64_w, i32_w]; rfl
                           exact norm_ t94_ (hCont (v487, gb490) _ ⟨hHeld, t88_, t107_, t45_, t50_, t51_, t52_, t55_, t110_, t111_, t112_, t113_, (zN BK490), GW490.out, GE490.out, NB458_490.out, NB490_458.out, NB463_490.out, NB490_463.out, NB468_490.out, NB490_468.out, NB471_490.out, NB490_471.out, t31_⟩)
                       rintro ⟨v487, gb490⟩ w91 ⟨hS_, h0_, h1_, h2_, h3_, h4_, h5_, h6_, h7_, h8_, h9_, h10_, h11_, h12_, h13_, h14_, h15_, h16_, h17_, h18_, h19_, h20_, h21_, h22_⟩; have n0_ : Aside0 (Kd.R (Kd.int .i64) 3 w91 w.heap.size (fun _ => True) (.slice (some ad481) t478.length co86) t478) := ⟨h0_⟩; have n1_ : Aside0 (Kd.R k71 71 w91 w.heap.size (fun _ => True) v487 t486) := ⟨h1_⟩; have n2_ : Aside0 (Kd.R k65 65 w91 w.heap.size (fun _ => True) (.slice Ao12 t455.length co12) t455) := ⟨h2_⟩; have n3_ : Aside0 (Kd.R k71 71 w91 w.heap.size (fun _ => True) (.slice Ao10 t452.length co10) t452) := ⟨h3_⟩; have n4_ : Aside0 (Kd.R k71 71 w91 w.heap.size (fun _ => True) (.slice Ao15 t459.length co15) t459) := ⟨h4_⟩; have n5_ : Aside0 (Kd.R k71 71 w91 w.heap.size (fun _ => True) (.slice Ao21 t464.length co21) t464) := ⟨h5_⟩; have n6_ : Aside0 (Kd.R k71 71 w91 w.heap.size (fun _ => True) u472000 x472000_2) := ⟨h6_⟩; have n7_ : Aside0 (w91.heap[gb458]? = some (.cells #[.slice Ao10 t452.length co10] 30 (0, 0))) := ⟨h7_⟩; have n8_ : Aside0 (w91.heap[gb463]? = some (.cells #[.slice Ao15 t459.length co15] 30 (0, 0))) := ⟨h8_⟩; have n9_ : Aside0 (w91.heap[gb468]? = some (.cells #[.slice Ao21 t464.length co21] 30 (0, 0))) := ⟨h9_⟩; have n10_ : Aside0 (w91.heap[gb471]? = some (.cells #[u472000] 30 (0, 0))) := ⟨h10_⟩; have n11_ : Aside0 (w91.heap[gb490]? = some (.cells #[.slice none 0 0] 30 (0, 0))) := ⟨h11_⟩; have n12_ : Aside0 (w.heap.size ≤ gb490) := ⟨h12_⟩; have n13_ : Aside0 (w.heap.size ≤ gb490) := ⟨h13_⟩; have n14_ : Aside0 (gb458 ≠ gb490) := ⟨h14_⟩; have n15_ : Aside0 (gb490 ≠ gb458) := ⟨h15_⟩; have n16_ : Aside0 (gb463 ≠ gb490) := ⟨h16_⟩; have n17_ : Aside0 (gb490 ≠ gb463) := ⟨h17_⟩; have n18_ : Aside0 (gb468 ≠ gb490) := ⟨h18_⟩; have n19_ : Aside0 (gb490 ≠ gb468) := ⟨h19_⟩; have n20_ : Aside0 (gb471 ≠ gb490) := ⟨h20_⟩; have n21_ : Aside0 (gb490 ≠ gb471) := ⟨h21_⟩; have n22_ : Aside0 (Below w.heap.size w w91) := ⟨h22_⟩; clear HO_4; clear HO_459000; clear HO_464000; clear HO_469000; clear HO_472000; clear HO480; clear BK458; clear BK463; clear BK468; clear BK471; clear HB; clear h0_ h1_ h2_ h3_ h4_ h5_ h6_ h7_ h8_ h9_ h10_ h11_ h12_ h13_ h14_ h15_ h16_ h17_ h18_ h19_ h20_ h21_ h22_; have HO480 := n0_; have HO488 := n1_; have HO_4 := n2_; have HO_459000 := n3_; have HO_464000 := n4_; have HO_469000 := n5_; have HO_472000 := n6_; have BK458 := n7_; have BK463 := n8_; have BK468 := n9_; have BK471 := n10_; have BK490 := n11_; have GW490 := n12_; have GE490 := n13_; have NB458_490 := n14_; have NB490_458 := n15_; have NB463_490 := n16_; have NB490_463 := n17_; have NB468_490 := n18_; have NB490_468 := n19_; have NB471_490 := n20_; have NB490_471 := n21_; have HB := n22_; clear n0_ n1_ n2_ n3_ n4_ n5_ n6_ n7_ n8_ n9_ n10_ n11_ n12_ n13_ n14_ n15_ n16_ n17_ n18_ n19_ n20_ n21_ n22_; have hHeld : w91.cell? ⟨gb458, 0, none⟩ = some (.slice Ao10 t452.length co10) := hS_; obtain ⟨Ao92, co92, eo92⟩ := Kd.R_slice HO488.out
                       (first | subst eo92 | (injection eo92 with f1_ f2_ f3_; have f4_ := f1_.symm; have f5_ := f3_.symm; clear f1_ f2_ f3_; subst f4_; subst f5_))
                       refine norm_ (a' := ?_) ?_ ?_
                       rotate_left
                       · simp only [putAll, Act.put, List.setIfInBounds_toArray, List.set_cons_zero, List.set_cons_succ]; rfl
                       refine one_ (i := 9) (N := none) #[true, true, true, true, true, true, true, true, true, true, false] rfl rfl (one_of HT_.out (by kernel_rfl)) (by decide) (fun K hK => ?_)
                       have hs93 : w91.cell? ⟨gb490, 0, none⟩ = some (.slice none 0 0) := bc0 BK490; have hfs93 := bf BK490 0; have hns93_0 := NB458_490.out; have hns93_1 := NB463_490.out; have hns93_2 := NB468_490.out; have hns93_3 := NB471_490.out; have hms93_0 := NB490_458.out; have hms93_1 := NB490_463.out; have hms93_2 := NB490_468.out; have hms93_3 := NB490_471.out; refine skip_ (w1 := ?_) (by rfl) rfl ?_ ?_
                       rotate_left
                       · go_simp; rfl
                       refine hK.out _ _ (((cell_far (p := ⟨gb490, _, none⟩) NB458_490.out _).trans (hHeld))) (fun hHeld => ?_)
                       clear hK K; refine pure_ (i := 10) (N := some 15) (v := ?_) (a' := ?_) #[true, true, true, true, true, true, true, true, true, true, true] rfl rfl (any_of HT_.out (by kernel_rfl)) (fun _ _ _ h => h) (Or.inl ⟨by rfl, ?_⟩) ?_ ?_
                       rotate_left
                       · intro w'; go_simp; with_reducible rfl
                       rotate_left
                       · simp only [Act.put, ps1, ps2, ps3, i64_w, i32_w]; rfl
                       refine done_ (done_of HT_.out (by kernel_rfl)) ?_
                       have hnb94 := NB458_463.out; have hnc94 := NB463_458.out; have hnb95 := NB458_468.out; have hnc95 := NB468_458.out; have hnb96 := NB458_471.out; have hnc96 := NB471_458.out; have hnb97 := NB458_490.out; have hnc97 := NB490_458.out; obtain ⟨hcz98_0, hfz98_0⟩ := ba1 BK458
                       try go_wp2_with (first | ((with_reducible refine gate_callee (f := 16) rfl ?_); refine goesL_ (some 96) rfl rfl Try.func16 (by kernel_rfl) rfl #[.agg #[.slice Ao10 t452.length co10], .slice Ao12 t455.length co12, .int .i64 ji76, .int .i64 0] rfl (by (try simp only [List.map_toArray, List.map_cons, List.map_nil]); first | done | (simp only [hji76]; rfl) | rfl | (simp only [List.length_drop, List.length_take]; rfl)) ?_; (with_reducible refine (impl_CutRaws.calls k2 _ _ t452 _ _ t455 ji76 0 t491 true _ ?side1 ?side2 ?side3 ?side4 A80.out).mono ?_); (case side1 => refine (Kd.R_reads' (e := 71) (base := w.heap.size) (ok := fun k_ => True) (n := t452.length) (c := co10) ?_).2.2; exact (rF HO_459000 BK490)); (case side2 => exact (Kd.R_reads' HO_459000.out).2.1); (case side3 => refine (Kd.R_reads' (e := 65) (base := w.heap.size) (ok := fun k_ => True) (n := t455.length) (c := co12) ?_).2.2; exact (rF HO_4 BK490)); (case side4 => exact (Kd.R_reads' HO_4.out).2.1); rintro e w99 ⟨v492, rfl, ho0, hb⟩; refine ⟨_, rfl, ?_⟩; replace HO_4 := Aside0.mk (Kd.R_below (rF HO_4 BK490) hb); replace HO_459000 := Aside0.mk (Kd.R_below (rF HO_459000 BK490) hb); replace HO_464000 := Aside0.mk (Kd.R_below (rF HO_464000 BK490) hb); replace HO_469000 := Aside0.mk (Kd.R_below (rF HO_469000 BK490) hb); replace HO_472000 := Aside0.mk (Kd.R_below (rF HO_472000 BK490) hb); replace HO480 := Aside0.mk (Kd.R_below (rF HO480 BK490) hb); replace HO488 := Aside0.mk (Kd.R_below (rF HO488 BK490) hb); have HO493 := Aside0.mk (Kd.R_lower ho0 (below_size t31_)); replace BK458 := bkF BK458 NB458_490 hb; replace BK463 := bkF BK463 NB463_490 hb; replace BK468 := bkF BK468 NB468_490 hb; replace BK471 := bkF BK471 NB471_490 hb; replace BK490 := Aside0.mk (blk_below (g := gb490) (o := .cells #[.slice Ao92 t486.length co92] 30 (0, 0)) (zP BK490) hb); replace HB := bS t31_ hb; (try clear hb); (try clear ho0)) | ((with_reducible refine gate_dst (N := 16) rfl ?_); (try (refine gate_guard (by rfl) ?_; dsimp only)); refine boxE (N := 16) (cs := #[.slice none 0 0]) (t := 30) (h := ?_); intro gb495 hg w100 hbox hb; replace HO_4 := Aside0.mk (Kd.R_below t45_ hb); replace HO_459000 := Aside0.mk (Kd.R_below t50_ hb); replace HO_464000 := Aside0.mk (Kd.R_below t51_ hb); replace HO_469000 := Aside0.mk (Kd.R_below t52_ hb); replace HO_472000 := Aside0.mk (Kd.R_below t55_ hb); replace HO480 := Aside0.mk (Kd.R_below t88_ hb); replace HO488 := Aside0.mk (Kd.R_below t107_ hb); replace HO493 := Aside0.mk (Kd.R_below (zK HO493) hb); have BK495 := Aside0.mk (hbox); have GW495 := Aside0.mk ((by rw [hg]; exact (below_size t31_) : w.heap.size ≤ gb495)); have GE495 := Aside0.mk ((by rw [hg]; exact (below_size t31_) : w.heap.size ≤ gb495)); replace HB := bS t31_ hb; have NB458_495 := nbL BK458 hg; have NB495_458 := nbG BK458 hg; replace BK458 := bkN BK458 hb; have NB463_495 := nbL BK463 hg; have NB495_463 := nbG BK463 hg; replace BK463 := bkN BK463 hb; have NB468_495 := nbL BK468 hg; have NB495_468 := nbG BK468 hg; replace BK468 := bkN BK468 hb; have NB471_495 := nbL BK471 hg; have NB495_471 := nbG BK471 hg; replace BK471 := bkN BK471 hb; have NB490_495 := nbL BK490 hg; have NB495_490 := nbG BK490 hg; replace BK490 := bkN BK490 hb; clear hb hbox hg; obtain ⟨Ao101, co101, eo101⟩ := Kd.R_slice HO493.out; subst eo101; have hnb102 := NB495_458.out; have hnc102 := NB458_495.out; have hnb103 := NB495_463.out; have hnc103 := NB463_495.out; have hnb104 := NB495_468.out; have hnc104 := NB468_495.out; have hnb105 := NB495_471.out; have hnc105 := NB471_495.out; have hnb106 := NB495_490.out; have hnc106 := NB490_495.out; obtain ⟨hcz107_0, hfz107_0⟩ := ba1 BK495; have hnb108 := NB471_463.out; have hnc108 := NB463_471.out; have hnb109 := NB471_468.out; have hnc109 := NB468_471.out; have hnb110 := NB471_490.out; have hnc110 := NB490_471.out; obtain ⟨hcz111_0, hfz111_0⟩ := ba1 BK471; have hnb112 := NB463_468.out; have hnc112 := NB468_463.out; have hnb113 := NB463_490.out; have hnc113 := NB490_463.out; obtain ⟨hcz114_0, hfz114_0⟩ := ba1 BK463; obtain ⟨Ao115, co115, eo115⟩ := Kd.R_slice HO_472000.out; subst eo115) | (go_at_call 40; (with_reducible refine (laws_sameDisk.calls k2 _ _ x472000_2 _ _ t459 true _ ?side1 ?side2 ?side3 ?side4 A82.out).mono ?_); (case side1 => refine (Kd.R_reads' (e := 71) (base := w.heap.size) (ok := fun k_ => True) (n := x472000_2.length) (c := co115) ?_).2.2; exact (rF HO_472000 BK495)); (case side2 => exact (Kd.R_reads' HO_472000.out).2.1); (case side3 => refine (Kd.R_reads' (e := 71) (base := w.heap.size) (ok := fun k_ => True) (n := t459.length) (c := co15) ?_).2.2; exact (rF HO_464000 BK495)); (case side4 => exact (Kd.R_reads' HO_464000.out).2.1); rintro e w116 ⟨rfl, hb⟩; replace HO_4 := Aside0.mk (Kd.R_below (rF HO_4 BK495) hb); replace HO_459000 := Aside0.mk (Kd.R_below (rF HO_459000 BK495) hb); replace HO_464000 := Aside0.mk (Kd.R_below (rF HO_464000 BK495) hb); replace HO_469000 := Aside0.mk (Kd.R_below (rF HO_469000 BK495) hb); replace HO_472000 := Aside0.mk (Kd.R_below (rF HO_472000 BK495) hb); replace HO480 := Aside0.mk (Kd.R_below (rF HO480 BK495) hb); replace HO488 := Aside0.mk (Kd.R_below (rF HO488 BK495) hb); replace HO493 := Aside0.mk (Kd.R_below (rF HO493 BK495) hb); replace BK458 := bkF BK458 NB458_495 hb; replace BK463 := bkF BK463 NB463_495 hb; replace BK468 := bkF BK468 NB468_495 hb; replace BK471 := bkF BK471 NB471_495 hb; replace BK490 := bkF BK490 NB490_495 hb; replace BK495 := Aside0.mk (blk_below (g := gb495) (o := .cells #[.slice Ao101 t491.length co101] 30 (0, 0)) (zP BK495) hb); replace HB := Aside0.mk (below_step (by repeat (first | (with_reducible first | exact HB.out | apply below_alloc | apply pw_below_drewN | apply below_drew1 | refine below_set ?_ GE458.out | refine below_set ?_ GE463.out | refine below_set ?_ GE468.out | refine below_set ?_ GE471.out | refine below_set ?_ GE490.out | refine below_set ?_ GE495.out) | exact HB.out)) hb); (try clear hb); obtain ⟨hcz117_0, hfz117_0⟩ := ba1 BK495; have hnb118 := NB490_468.out; have hnc118 := NB468_490.out; obtain ⟨hcz119_0, hfz119_0⟩ := ba1 BK490) | (go_at_call 40; (with_reducible refine (laws_sameDisk.calls k2 _ _ t491 _ _ t486 t497 _ ?side1 ?side2 ?side3 ?side4 A84.out).mono ?_); (case side1 => repeat (first | exact (Kd.R_reads' HO493.out).2.2 | (with_reducible refine Kd.C_alloc ?_ _) | (with_reducible refine Kd.C_drewN ?_ _) | (with_reducible refine Kd.C_drew ?_))); (case side2 => exact (Kd.R_reads' HO493.out).2.1); (case side3 => repeat (first | exact (Kd.R_reads' HO488.out).2.2 | (with_reducible refine Kd.C_alloc ?_ _) | (with_reducible refine Kd.C_drewN ?_ _) | (with_reducible refine Kd.C_drew ?_))); (case side4 => exact (Kd.R_reads' HO488.out).2.1); rintro e w120 ⟨rfl, hb⟩; replace HO_4 := Aside0.mk (Kd.R_below t45_ hb); replace HO_459000 := Aside0.mk (Kd.R_below t50_ hb); replace HO_464000 := Aside0.mk (Kd.R_below t51_ hb); replace HO_469000 := Aside0.mk (Kd.R_below t52_ hb); replace HO_472000 := Aside0.mk (Kd.R_below t55_ hb); replace HO480 := Aside0.mk (Kd.R_below t88_ hb); replace HO488 := Aside0.mk (Kd.R_below t107_ hb); replace HO493 := Aside0.mk (Kd.R_below (zK HO493) hb); replace BK458 := bkN BK458 hb; replace BK463 := bkN BK463 hb; replace BK468 := bkN BK468 hb; replace BK471 := bkN BK471 hb; replace BK490 := bkN BK490 hb; replace BK495 := bkN BK495 hb; replace HB := Aside0.mk (below_step (by repeat (first | (with_reducible first | exact HB.out | apply below_alloc | apply pw_below_drewN | apply below_drew1 | refine below_set ?_ GE458.out | refine below_set ?_ GE463.out | refine below_set ?_ GE468.out | refine below_set ?_ GE471.out | refine below_set ?_ GE490.out | refine below_set ?_ GE495.out) | exact HB.out)) hb); (try clear hb)))
                       go_ret; exact ⟨by first | rfl | (simp [errW_none, errW_some] <;> rfl) | (simp only [← hji76]; first | rfl | (simp [errW_none, errW_some] <;> rfl)) | (simp [*, errW_none, errW_some] <;> rfl), by repeat (first | (with_reducible first | exact HB.out | apply below_alloc | apply pw_below_drewN | apply below_drew1 | refine below_set ?_ GE458.out | refine below_set ?_ GE463.out | refine below_set ?_ GE468.out | refine below_set ?_ GE471.out | refine below_set ?_ GE490.out | refine below_set ?_ GE495.out) | exact HB.out)⟩
                     · replace c83 := Bool.eq_false_iff.mpr c83; subst c83; have H1 : (none) = some r := by rw [if_neg (show ¬ (false = true) by decide)] at H; exact H
                       clear H; have H := H1; clear H1; exact absurd H (by simp)
                   · replace c81 := Bool.eq_false_iff.mpr c81; subst c81; have H1 : (none) = some r := by rw [if_neg (show ¬ (false = true) by decide)] at H; exact H
                     clear H; have H := H1; clear H1; exact absurd H (by simp)
                 · rw [if_neg c78] at H; exact absurd H (by simp)
               · rw [if_neg c77] at H; exact absurd H (by simp)
           · rw [if_neg c74] at H; exact absurd H (by simp)

/-- THE ONE PURE STATEMENT of laws_FnRaws: yours. -/
def laws_FnRaws.Pure : Prop := ∀ (l0 : List Int), l0.length ≤ maxLen → l0.length * 1 ≤ 140737488351232 → (∀ x ∈ l0, (Lit.int .u8 x).wf = true) → ∃ k, laws_FnRaws.f k l0 = some true
theorem laws_FnRaws.walk (P : laws_FnRaws.Pure) (a0 : Option Addr) (len0 cap0 : Nat) (z0 : List Int) (w : World) (w0 : (a0 = none ∧ len0 = 0 ∧ cap0 = 0 ∧ z0 = []) ∨ ∃ x, a0 = some x ∧ len0 ≤ cap0 ∧ cap0 ≤ maxLen ∧ z0.length = cap0 ∧ (∀ i, i < z0.length → w.cell? (x.add i) = some (.int .u8 (z0.getD i 0))) ∧ ∀ n ∈ z0, (Lit.int .u8 n).wf = true) (y0 : len0 * 1 ≤ 140737488351232) :
 Calls Try.prog 7 #[.slice a0 len0 cap0] w fun e w' => e = .returned (.bool true) ∧ Below w.heap.size w w' := by
 obtain ⟨l0, rfl, hr0, hm0, hw0, hc0⟩ := ReadsInt.ofRowC w0; obtain ⟨k, h⟩ := P l0 hm0 y0 hw0; refine (laws_FnRaws.calls k _ _ l0 true w (Kd.C_of_reads (d := (0 : Int)) (h1 := fun _ => rfl) hr0) hc0 h).mono ?_
 rintro e w' ⟨rfl, hd⟩; exact ⟨rfl, hd⟩

end Go.Proofs.Ytpjhbhjmaggheaa.QFnRaws
