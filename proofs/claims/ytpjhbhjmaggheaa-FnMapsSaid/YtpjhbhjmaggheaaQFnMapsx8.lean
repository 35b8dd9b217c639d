-- By a program of this session, over the kit's print.
import Derived.Test.YtpjhbhjmaggheaaQFnMapsx0
import Derived.Test.YtpjhbhjmaggheaaQFnMapsx2
import Derived.Test.YtpjhbhjmaggheaaQFnMapsx3
import Derived.Test.YtpjhbhjmaggheaaQFnMapsx5
import Derived.Test.YtpjhbhjmaggheaaQFnMapsx6
import Derived.Test.YtpjhbhjmaggheaaQFnMapsx7
namespace Go.Proofs.Ytpjhbhjmaggheaa.QFnMaps
open Go.RowKit Go.Proofs.YtpjhbhjmaggheaaW.PrintWords Go.Proofs.YtpjhbhjmaggheaaW.PrintLast Go.Proofs.YtpjhbhjmaggheaaW.PrintMore
attribute [local go_sem] max2_int min2_int max_two min_two max_three min_three max_four min_four   -- for this text's walks alone
set_option linter.unusedVariables false
set_option linter.unusedSimpArgs false

/-! ### laws_FnMaps: function 4 -/
mutual
def laws_FnMaps.j0 : Nat → List (S59) → List (S59) → List (S109) → List (S59) → Bool → Option (Bool)
  | 0, _, _, _, _, _ => none
  | k + 1, x3, x4, x5, x7, x94 => if x94 = true then (none) else (laws_FnMaps.l0 k x3 x4 x5 x7 0)
def laws_FnMaps.l0 : Nat → List (S59) → List (S59) → List (S109) → List (S59) → Int → Option (Bool)
  | 0, _, _, _, _, _ => none
  | k + 1, x3, x4, x5, x7, x15 => if x15 < (x4.length : Int) then (if 0 ≤ x15 then ((impl_MapGet.f k x7 ((rd_T59 x4 x15).f0)).bind fun bt319 => (if bt319.2 = true then (if bt319.1.toList = ((rd_T59 x4 x15).f1).toList then (laws_FnMaps.l0 k x3 x4 x5 x7 (wrap64 (x15 + 1))) else (none)) else (none))) else (none)) else (some (decide ((x5.length : Int) ≤ (wrap64 ((x3.length : Int) + (x4.length : Int))))))
end
def laws_FnMaps.f (k : Nat) (l0 : List Int) : Option (Bool) := (laws_big.f l0).bind fun t284 => (if t284 = true then (some true) else ((spec_DrawRightMaps.f k l0).bind fun bt285 => ((impl_MapBetween.f k bt285.1 bt285.2).bind fun bt291 => ((impl_MapDo.f k bt285.1 1 bt291.1).bind fun bt295 => ((impl_MapBetween.f k bt285.1 bt285.1).bind fun bt299 => ((impl_MapBatch.f k bt285.2 7).bind fun bt303 => ((impl_MapDo.f k (([] : List (S59))) bt303.1 bt303.2.1).bind fun bt312 => (if bt291.2 = true then (if bt295.2 = true then (if bt299.2 = true then (if bt303.2.2 = true then (if bt312.2 = true then (if (bt299.1.length : Int) = 0 then ((laws_sameMap.f k bt295.1 bt285.2).bind fun t316 => (if t316 = true then ((laws_sameMap.f k bt312.1 bt285.2).bind fun t317 => (if t317 = true then (laws_FnMaps.j0 k bt285.1 bt285.2 bt291.1 bt295.1 (bt303.1 != 7)) else (laws_FnMaps.j0 k bt285.1 bt285.2 bt291.1 bt295.1 true))) else (laws_FnMaps.j0 k bt285.1 bt285.2 bt291.1 bt295.1 true))) else (laws_FnMaps.j0 k bt285.1 bt285.2 bt291.1 bt295.1 true)) else (laws_FnMaps.j0 k bt285.1 bt285.2 bt291.1 bt295.1 true)) else (laws_FnMaps.j0 k bt285.1 bt285.2 bt291.1 bt295.1 true)) else (laws_FnMaps.j0 k bt285.1 bt285.2 bt291.1 bt295.1 true)) else (laws_FnMaps.j0 k bt285.1 bt285.2 bt291.1 bt295.1 true)) else (laws_FnMaps.j0 k bt285.1 bt285.2 bt291.1 bt295.1 true)))))))))
theorem laws_FnMaps.mono_l : ∀ k, (∀ y0 y1 y2 y3 y4, LeO (laws_FnMaps.j0 k y0 y1 y2 y3 y4) (laws_FnMaps.j0 (k + 1) y0 y1 y2 y3 y4)) ∧ (∀ y0 y1 y2 y3 y4, LeO (laws_FnMaps.l0 k y0 y1 y2 y3 y4) (laws_FnMaps.l0 (k + 1) y0 y1 y2 y3 y4))
  | 0 => ⟨fun _ _ _ _ _ r h => by simp [laws_FnMaps.j0] at h, fun _ _ _ _ _ r h => by simp [laws_FnMaps.l0] at h⟩
  | k + 1 => by
    obtain ⟨ih0, ih1⟩ := laws_FnMaps.mono_l k
    refine ⟨?_, ?_⟩
    · intro y0 y1 y2 y3 y4
      unfold laws_FnMaps.j0
      repeat' first
      | (with_reducible exact ih0 _ _ _ _ _)
      | (with_reducible exact ih1 _ _ _ _ _)
      | (with_reducible exact impl_MapBatch.mono _ _ _)
      | (with_reducible exact impl_MapBetween.mono _ _ _)
      | (with_reducible exact impl_MapDo.mono _ _ _ _)
      | (with_reducible exact impl_MapGet.mono _ _ _)
      | (with_reducible exact laws_sameMap.mono _ _ _)
      | (with_reducible exact spec_DrawRightMaps.mono _ _)
      | (with_reducible exact LeO.refl _)
      | (with_reducible exact LeO.none _)
      | (with_reducible refine LeO.ite ?_ ?_)
      | (with_reducible refine LeO.bind ?_ (fun _ => ?_))
      | exact ih0 _ _ _ _ _
      | exact ih1 _ _ _ _ _
      | exact impl_MapBatch.mono _ _ _
      | exact impl_MapBetween.mono _ _ _
      | exact impl_MapDo.mono _ _ _ _
      | exact impl_MapGet.mono _ _ _
      | exact laws_sameMap.mono _ _ _
      | exact spec_DrawRightMaps.mono _ _
      | exact LeO.none _
      | refine LeO.ite ?_ ?_
      | refine LeO.bind ?_ (fun _ => ?_)
    · intro y0 y1 y2 y3 y4
      unfold laws_FnMaps.l0
      repeat' first
      | (with_reducible exact ih0 _ _ _ _ _)
      | (with_reducible exact ih1 _ _ _ _ _)
      | (with_reducible exact impl_MapBatch.mono _ _ _)
      | (with_reducible exact impl_MapBetween.mono _ _ _)
      | (with_reducible exact impl_MapDo.mono _ _ _ _)
      | (with_reducible exact impl_MapGet.mono _ _ _)
      | (with_reducible exact laws_sameMap.mono _ _ _)
      | (with_reducible exact spec_DrawRightMaps.mono _ _)
      | (with_reducible exact LeO.refl _)
      | (with_reducible exact LeO.none _)
      | (with_reducible refine LeO.ite ?_ ?_)
      | (with_reducible refine LeO.bind ?_ (fun _ => ?_))
      | exact ih0 _ _ _ _ _
      | exact ih1 _ _ _ _ _
      | exact impl_MapBatch.mono _ _ _
      | exact impl_MapBetween.mono _ _ _
      | exact impl_MapDo.mono _ _ _ _
      | exact impl_MapGet.mono _ _ _
      | exact laws_sameMap.mono _ _ _
      | exact spec_DrawRightMaps.mono _ _
      | exact LeO.none _
      | refine LeO.ite ?_ ?_
      | refine LeO.bind ?_ (fun _ => ?_)
theorem laws_FnMaps.mono : ∀ a0 k, LeO (laws_FnMaps.f k a0) (laws_FnMaps.f (k + 1) a0) := by
  intro a0 k
  obtain ⟨ih0, ih1⟩ := laws_FnMaps.mono_l k
  unfold laws_FnMaps.f
  repeat' first
      | (with_reducible exact ih0 _ _ _ _ _)
      | (with_reducible exact ih1 _ _ _ _ _)
      | (with_reducible exact impl_MapBatch.mono _ _ _)
      | (with_reducible exact impl_MapBetween.mono _ _ _)
      | (with_reducible exact impl_MapDo.mono _ _ _ _)
      | (with_reducible exact impl_MapGet.mono _ _ _)
      | (with_reducible exact laws_sameMap.mono _ _ _)
      | (with_reducible exact spec_DrawRightMaps.mono _ _)
      | (with_reducible exact LeO.refl _)
      | (with_reducible exact LeO.none _)
      | (with_reducible refine LeO.ite ?_ ?_)
      | (with_reducible refine LeO.bind ?_ (fun _ => ?_))
      | exact ih0 _ _ _ _ _
      | exact ih1 _ _ _ _ _
      | exact impl_MapBatch.mono _ _ _
      | exact impl_MapBetween.mono _ _ _
      | exact impl_MapDo.mono _ _ _ _
      | exact impl_MapGet.mono _ _ _
      | exact laws_sameMap.mono _ _ _
      | exact spec_DrawRightMaps.mono _ _
      | exact LeO.none _
      | refine LeO.ite ?_ ?_
      | refine LeO.bind ?_ (fun _ => ?_)
set_option maxHeartbeats 8000000 in
set_option maxRecDepth 100000 in
theorem laws_FnMaps.calls (k : Nat) (A0 : Option Addr) (c0 : Nat) (l0 : List Int) (r : Bool) (w : World) (hr0 : Kd.C (Kd.int .u8) w A0 l0.length l0) (hc0 : l0.length ≤ c0) (h : laws_FnMaps.f k l0 = some r) :
    Calls Try.prog 4 #[.slice A0 l0.length c0] w fun e w' => e = .returned (.bool r) ∧ Below w.heap.size w w' := by
  have hu52 := Try.underlying52
  have HR0 := Aside0.mk hr0
  have HC0 := Aside0.mk hc0
  clear hr0 hc0
  have HB := Aside0.mk (Below.refl w.heap.size w)
  have H : ((laws_big.f l0).bind fun t284 => (if t284 = true then (some true) else ((spec_DrawRightMaps.f k l0).bind fun bt285 => ((impl_MapBetween.f k bt285.1 bt285.2).bind fun bt291 => ((impl_MapDo.f k bt285.1 1 bt291.1).bind fun bt295 => ((impl_MapBetween.f k bt285.1 bt285.1).bind fun bt299 => ((impl_MapBatch.f k bt285.2 7).bind fun bt303 => ((impl_MapDo.f k (([] : List (S59))) bt303.1 bt303.2.1).bind fun bt312 => (if bt291.2 = true then (if bt295.2 = true then (if bt299.2 = true then (if bt303.2.2 = true then (if bt312.2 = true then (if (bt299.1.length : Int) = 0 then ((laws_sameMap.f k bt295.1 bt285.2).bind fun t316 => (if t316 = true then ((laws_sameMap.f k bt312.1 bt285.2).bind fun t317 => (if t317 = true then (laws_FnMaps.j0 k bt285.1 bt285.2 bt291.1 bt295.1 (bt303.1 != 7)) else (laws_FnMaps.j0 k bt285.1 bt285.2 bt291.1 bt295.1 true))) else (laws_FnMaps.j0 k bt285.1 bt285.2 bt291.1 bt295.1 true))) else (laws_FnMaps.j0 k bt285.1 bt285.2 bt291.1 bt295.1 true)) else (laws_FnMaps.j0 k bt285.1 bt285.2 bt291.1 bt295.1 true)) else (laws_FnMaps.j0 k bt285.1 bt285.2 bt291.1 bt295.1 true)) else (laws_FnMaps.j0 k bt285.1 bt285.2 bt291.1 bt295.1 true)) else (laws_FnMaps.j0 k bt285.1 bt285.2 bt291.1 bt295.1 true)) else (laws_FnMaps.j0 k bt285.1 bt285.2 bt291.1 bt295.1 true)))))))))) = some r := h
  clear h
  replace H := Option.bind_eq_some_iff.mp H
  obtain ⟨t284, A20, H⟩ := H
  replace H : (if t284 = true then (some true) else ((spec_DrawRightMaps.f k l0).bind fun bt285 => ((impl_MapBetween.f k bt285.1 bt285.2).bind fun bt291 => ((impl_MapDo.f k bt285.1 1 bt291.1).bind fun bt295 => ((impl_MapBetween.f k bt285.1 bt285.1).bind fun bt299 => ((impl_MapBatch.f k bt285.2 7).bind fun bt303 => ((impl_MapDo.f k (([] : List (S59))) bt303.1 bt303.2.1).bind fun bt312 => (if bt291.2 = true then (if bt295.2 = true then (if bt299.2 = true then (if bt303.2.2 = true then (if bt312.2 = true then (if (bt299.1.length : Int) = 0 then ((laws_sameMap.f k bt295.1 bt285.2).bind fun t316 => (if t316 = true then ((laws_sameMap.f k bt312.1 bt285.2).bind fun t317 => (if t317 = true then (laws_FnMaps.j0 k bt285.1 bt285.2 bt291.1 bt295.1 (bt303.1 != 7)) else (laws_FnMaps.j0 k bt285.1 bt285.2 bt291.1 bt295.1 true))) else (laws_FnMaps.j0 k bt285.1 bt285.2 bt291.1 bt295.1 true))) else (laws_FnMaps.j0 k bt285.1 bt285.2 bt291.1 bt295.1 true)) else (laws_FnMaps.j0 k bt285.1 bt285.2 bt291.1 bt295.1 true)) else (laws_FnMaps.j0 k bt285.1 bt285.2 bt291.1 bt295.1 true)) else (laws_FnMaps.j0 k bt285.1 bt285.2 bt291.1 bt295.1 true)) else (laws_FnMaps.j0 k bt285.1 bt285.2 bt291.1 bt295.1 true)) else (laws_FnMaps.j0 k bt285.1 bt285.2 bt291.1 bt295.1 true))))))))) = some r := H
  have A2 := Aside0.mk A20
  clear A20
  by_cases c3 : t284 = true
  · subst c3
    have H1 : (some true) = some r := by rw [if_pos rfl] at H; exact H
    clear H
    have H := H1
    clear H1
    obtain rfl := Option.some.inj H
    go_enter Try.func4, Try.ntmps4
    go_wp2_with (first | ((with_reducible refine gate_callee (f := 22) rfl ?_); refine goesL_ (some 19) rfl rfl Try.func22 (by kernel_rfl) rfl #[.slice A0 l0.length c0] rfl t4_ ?_; (with_reducible refine (laws_big.calls _ _ l0 true _ ?side1 ?side2 A2.out).mono ?_); (case side1 => repeat (first | exact HR0.out | (with_reducible refine Kd.C_alloc ?_ _) | (with_reducible refine Kd.C_drewN ?_ _) | (with_reducible refine Kd.C_drew ?_))); (case side2 => exact HC0.out); rintro e w' ⟨rfl, ⟨nd, rfl⟩⟩; refine ⟨_, rfl, ?_⟩))
    go_ret
    exact ⟨by first | rfl | (simp [errW_none, errW_some] <;> rfl) | (simp [*, errW_none, errW_some] <;> rfl), t0_⟩
  · replace c3 := Bool.eq_false_iff.mpr c3
    subst c3
    have H1 : ((spec_DrawRightMaps.f k l0).bind fun bt285 => ((impl_MapBetween.f k bt285.1 bt285.2).bind fun bt291 => ((impl_MapDo.f k bt285.1 1 bt291.1).bind fun bt295 => ((impl_MapBetween.f k bt285.1 bt285.1).bind fun bt299 => ((impl_MapBatch.f k bt285.2 7).bind fun bt303 => ((impl_MapDo.f k (([] : List (S59))) bt303.1 bt303.2.1).bind fun bt312 => (if bt291.2 = true then (if bt295.2 = true then (if bt299.2 = true then (if bt303.2.2 = true then (if bt312.2 = true then (if (bt299.1.length : Int) = 0 then ((laws_sameMap.f k bt295.1 bt285.2).bind fun t316 => (if t316 = true then ((laws_sameMap.f k bt312.1 bt285.2).bind fun t317 => (if t317 = true then (laws_FnMaps.j0 k bt285.1 bt285.2 bt291.1 bt295.1 (bt303.1 != 7)) else (laws_FnMaps.j0 k bt285.1 bt285.2 bt291.1 bt295.1 true))) else (laws_FnMaps.j0 k bt285.1 bt285.2 bt291.1 bt295.1 true))) else (laws_FnMaps.j0 k bt285.1 bt285.2 bt291.1 bt295.1 true)) else (laws_FnMaps.j0 k bt285.1 bt285.2 bt291.1 bt295.1 true)) else (laws_FnMaps.j0 k bt285.1 bt285.2 bt291.1 bt295.1 true)) else (laws_FnMaps.j0 k bt285.1 bt285.2 bt291.1 bt295.1 true)) else (laws_FnMaps.j0 k bt285.1 bt285.2 bt291.1 bt295.1 true)) else (laws_FnMaps.j0 k bt285.1 bt285.2 bt291.1 bt295.1 true)))))))) = some r := by rw [if_neg (show ¬ (false = true) by decide)] at H; exact H
    clear H
    have H := H1
    clear H1
    replace H := Option.bind_eq_some_iff.mp H
    obtain ⟨⟨t285, t286⟩, A40, H⟩ := H
    replace H : ((impl_MapBetween.f k t285 t286).bind fun bt291 => ((impl_MapDo.f k t285 1 bt291.1).bind fun bt295 => ((impl_MapBetween.f k t285 t285).bind fun bt299 => ((impl_MapBatch.f k t286 7).bind fun bt303 => ((impl_MapDo.f k (([] : List (S59))) bt303.1 bt303.2.1).bind fun bt312 => (if bt291.2 = true then (if bt295.2 = true then (if bt299.2 = true then (if bt303.2.2 = true then (if bt312.2 = true then (if (bt299.1.length : Int) = 0 then ((laws_sameMap.f k bt295.1 t286).bind fun t316 => (if t316 = true then ((laws_sameMap.f k bt312.1 t286).bind fun t317 => (if t317 = true then (laws_FnMaps.j0 k t285 t286 bt291.1 bt295.1 (bt303.1 != 7)) else (laws_FnMaps.j0 k t285 t286 bt291.1 bt295.1 true))) else (laws_FnMaps.j0 k t285 t286 bt291.1 bt295.1 true))) else (laws_FnMaps.j0 k t285 t286 bt291.1 bt295.1 true)) else (laws_FnMaps.j0 k t285 t286 bt291.1 bt295.1 true)) else (laws_FnMaps.j0 k t285 t286 bt291.1 bt295.1 true)) else (laws_FnMaps.j0 k t285 t286 bt291.1 bt295.1 true)) else (laws_FnMaps.j0 k t285 t286 bt291.1 bt295.1 true)) else (laws_FnMaps.j0 k t285 t286 bt291.1 bt295.1 true))))))) = some r := H
    have A4 := Aside0.mk A40
    clear A40
    replace H := Option.bind_eq_some_iff.mp H
    obtain ⟨⟨t291, t292⟩, A50, H⟩ := H
    replace H : ((impl_MapDo.f k t285 1 t291).bind fun bt295 => ((impl_MapBetween.f k t285 t285).bind fun bt299 => ((impl_MapBatch.f k t286 7).bind fun bt303 => ((impl_MapDo.f k (([] : List (S59))) bt303.1 bt303.2.1).bind fun bt312 => (if t292 = true then (if bt295.2 = true then (if bt299.2 = true then (if bt303.2.2 = true then (if bt312.2 = true then (if (bt299.1.length : Int) = 0 then ((laws_sameMap.f k bt295.1 t286).bind fun t316 => (if t316 = true then ((laws_sameMap.f k bt312.1 t286).bind fun t317 => (if t317 = true then (laws_FnMaps.j0 k t285 t286 t291 bt295.1 (bt303.1 != 7)) else (laws_FnMaps.j0 k t285 t286 t291 bt295.1 true))) else (laws_FnMaps.j0 k t285 t286 t291 bt295.1 true))) else (laws_FnMaps.j0 k t285 t286 t291 bt295.1 true)) else (laws_FnMaps.j0 k t285 t286 t291 bt295.1 true)) else (laws_FnMaps.j0 k t285 t286 t291 bt295.1 true)) else (laws_FnMaps.j0 k t285 t286 t291 bt295.1 true)) else (laws_FnMaps.j0 k t285 t286 t291 bt295.1 true)) else (laws_FnMaps.j0 k t285 t286 t291 bt295.1 true)))))) = some r := H
    have A5 := Aside0.mk A50
    clear A50
    replace H := Option.bind_eq_some_iff.mp H
    obtain ⟨⟨t295, t298⟩, A60, H⟩ := H
    replace H : ((impl_MapBetween.f k t285 t285).bind fun bt299 => ((impl_MapBatch.f k t286 7).bind fun bt303 => ((impl_MapDo.f k (([] : List (S59))) bt303.1 bt303.2.1).bind fun bt312 => (if t292 = true then (if t298 = true then (if bt299.2 = true then (if bt303.2.2 = true then (if bt312.2 = true then (if (bt299.1.length : Int) = 0 then ((laws_sameMap.f k t295 t286).bind fun t316 => (if t316 = true then ((laws_sameMap.f k bt312.1 t286).bind fun t317 => (if t317 = true then (laws_FnMaps.j0 k t285 t286 t291 t295 (bt303.1 != 7)) else (laws_FnMaps.j0 k t285 t286 t291 t295 true))) else (laws_FnMaps.j0 k t285 t286 t291 t295 true))) else (laws_FnMaps.j0 k t285 t286 t291 t295 true)) else (laws_FnMaps.j0 k t285 t286 t291 t295 true)) else (laws_FnMaps.j0 k t285 t286 t291 t295 true)) else (laws_FnMaps.j0 k t285 t286 t291 t295 true)) else (laws_FnMaps.j0 k t285 t286 t291 t295 true)) else (laws_FnMaps.j0 k t285 t286 t291 t295 true))))) = some r := H
    have A6 := Aside0.mk A60
    clear A60
    replace H := Option.bind_eq_some_iff.mp H
    obtain ⟨⟨t299, t300⟩, A70, H⟩ := H
    replace H : ((impl_MapBatch.f k t286 7).bind fun bt303 => ((impl_MapDo.f k (([] : List (S59))) bt303.1 bt303.2.1).bind fun bt312 => (if t292 = true then (if t298 = true then (if t300 = true then (if bt303.2.2 = true then (if bt312.2 = true then (if (t299.length : Int) = 0 then ((laws_sameMap.f k t295 t286).bind fun t316 => (if t316 = true then ((laws_sameMap.f k bt312.1 t286).bind fun t317 => (if t317 = true then (laws_FnMaps.j0 k t285 t286 t291 t295 (bt303.1 != 7)) else (laws_FnMaps.j0 k t285 t286 t291 t295 true))) else (laws_FnMaps.j0 k t285 t286 t291 t295 true))) else (laws_FnMaps.j0 k t285 t286 t291 t295 true)) else (laws_FnMaps.j0 k t285 t286 t291 t295 true)) else (laws_FnMaps.j0 k t285 t286 t291 t295 true)) else (laws_FnMaps.j0 k t285 t286 t291 t295 true)) else (laws_FnMaps.j0 k t285 t286 t291 t295 true)) else (laws_FnMaps.j0 k t285 t286 t291 t295 true)))) = some r := H
    have A7 := Aside0.mk A70
    clear A70
    replace H := Option.bind_eq_some_iff.mp H
    obtain ⟨⟨t303, t304, t307⟩, A80, H⟩ := H
    replace H : ((impl_MapDo.f k (([] : List (S59))) t303 t304).bind fun bt312 => (if t292 = true then (if t298 = true then (if t300 = true then (if t307 = true then (if bt312.2 = true then (if (t299.length : Int) = 0 then ((laws_sameMap.f k t295 t286).bind fun t316 => (if t316 = true then ((laws_sameMap.f k bt312.1 t286).bind fun t317 => (if t317 = true then (laws_FnMaps.j0 k t285 t286 t291 t295 (t303 != 7)) else (laws_FnMaps.j0 k t285 t286 t291 t295 true))) else (laws_FnMaps.j0 k t285 t286 t291 t295 true))) else (laws_FnMaps.j0 k t285 t286 t291 t295 true)) else (laws_FnMaps.j0 k t285 t286 t291 t295 true)) else (laws_FnMaps.j0 k t285 t286 t291 t295 true)) else (laws_FnMaps.j0 k t285 t286 t291 t295 true)) else (laws_FnMaps.j0 k t285 t286 t291 t295 true)) else (laws_FnMaps.j0 k t285 t286 t291 t295 true))) = some r := H
    have A8 := Aside0.mk A80
    clear A80
    obtain ⟨y309, hy309⟩ : ∃ y_ : List (S59), y_ = (([] : List (S59))) := ⟨_, rfl⟩
    replace H : ((impl_MapDo.f k y309 t303 t304).bind fun bt312 => (if t292 = true then (if t298 = true then (if t300 = true then (if t307 = true then (if bt312.2 = true then (if (t299.length : Int) = 0 then ((laws_sameMap.f k t295 t286).bind fun t316 => (if t316 = true then ((laws_sameMap.f k bt312.1 t286).bind fun t317 => (if t317 = true then (laws_FnMaps.j0 k t285 t286 t291 t295 (t303 != 7)) else (laws_FnMaps.j0 k t285 t286 t291 t295 true))) else (laws_FnMaps.j0 k t285 t286 t291 t295 true))) else (laws_FnMaps.j0 k t285 t286 t291 t295 true)) else (laws_FnMaps.j0 k t285 t286 t291 t295 true)) else (laws_FnMaps.j0 k t285 t286 t291 t295 true)) else (laws_FnMaps.j0 k t285 t286 t291 t295 true)) else (laws_FnMaps.j0 k t285 t286 t291 t295 true)) else (laws_FnMaps.j0 k t285 t286 t291 t295 true))) = some r := by first | (rw [hy309]; with_reducible exact H) | (have H2_ := (Option.bind_some _ _).symm.trans H; rw [hy309]; with_reducible exact H2_) | (have H2_ := (Option.bind_some _ _).symm.trans H; with_reducible exact H2_) | with_reducible exact H | (rw [hy309]; exact H) | exact H
    have Ny309 := Aside0.mk hy309
    clear hy309
    replace H := Option.bind_eq_some_iff.mp H
    obtain ⟨⟨t312, t315⟩, A90, H⟩ := H
    replace H : (if t292 = true then (if t298 = true then (if t300 = true then (if t307 = true then (if t315 = true then (if (t299.length : Int) = 0 then ((laws_sameMap.f k t295 t286).bind fun t316 => (if t316 = true then ((laws_sameMap.f k t312 t286).bind fun t317 => (if t317 = true then (laws_FnMaps.j0 k t285 t286 t291 t295 (t303 != 7)) else (laws_FnMaps.j0 k t285 t286 t291 t295 true))) else (laws_FnMaps.j0 k t285 t286 t291 t295 true))) else (laws_FnMaps.j0 k t285 t286 t291 t295 true)) else (laws_FnMaps.j0 k t285 t286 t291 t295 true)) else (laws_FnMaps.j0 k t285 t286 t291 t295 true)) else (laws_FnMaps.j0 k t285 t286 t291 t295 true)) else (laws_FnMaps.j0 k t285 t286 t291 t295 true)) else (laws_FnMaps.j0 k t285 t286 t291 t295 true)) = some r := H
    have A9 := Aside0.mk A90
    clear A90
    have HC10 := Aside0.mk H
    clear H
    go_enter Try.func4, Try.ntmps4
    go_upto_region 9 with (first | ((with_reducible refine gate_callee (f := 22) rfl ?_); refine goesL_ (some 19) rfl rfl Try.func22 (by kernel_rfl) rfl #[.slice A0 l0.length c0] rfl t4_ ?_; (with_reducible refine (laws_big.calls _ _ l0 false _ ?side1 ?side2 A2.out).mono ?_); (case side1 => repeat (first | exact HR0.out | (with_reducible refine Kd.C_alloc ?_ _) | (with_reducible refine Kd.C_drewN ?_ _) | (with_reducible refine Kd.C_drew ?_))); (case side2 => exact HC0.out); rintro e w' ⟨rfl, ⟨nd, rfl⟩⟩; refine ⟨_, rfl, ?_⟩) | ((with_reducible refine gate_callee (f := 23) rfl ?_); refine goesL_ (some 22) rfl rfl Try.func23 (by kernel_rfl) rfl #[.slice A0 l0.length c0] rfl t4_ ?_; (with_reducible refine (spec_DrawRightMaps.calls k _ _ l0 t285 t286 _ ?side1 ?side2 A4.out).mono ?_); (case side1 => repeat (first | exact HR0.out | (with_reducible refine Kd.C_alloc ?_ _) | (with_reducible refine Kd.C_drewN ?_ _) | (with_reducible refine Kd.C_drew ?_))); (case side2 => exact HC0.out); rintro e w11 ⟨v287, v289, rfl, ho0, ho1, hb⟩; refine ⟨_, rfl, ?_⟩; have HO288 := Aside0.mk (Kd.R_lower ho0 (below_size t0_)); have HO290 := Aside0.mk (Kd.R_lower ho1 (below_size t0_)); replace HB := Aside0.mk (below_step t0_ hb); (try clear hb); (try clear hb2); (try clear hk); (try clear hi); (try clear ho0); (try clear ho1); obtain ⟨Ao12, co12, eo12⟩ := Kd.R_slice HO288.out; subst eo12; obtain ⟨Ao13, co13, eo13⟩ := Kd.R_slice HO290.out; subst eo13) | ((with_reducible refine gate_callee (f := 24) rfl ?_); refine goesL_ (some 28) rfl rfl Try.func24 (by kernel_rfl) rfl #[.slice Ao12 t285.length co12, .slice Ao13 t286.length co13] rfl t4_ ?_; (with_reducible refine (impl_MapBetween.calls k _ _ t285 _ _ t286 t291 t292 _ ?side1 ?side2 ?side3 ?side4 A5.out).mono ?_); (case side1 => repeat (first | exact (Kd.R_reads' HO288.out).2.2 | (with_reducible refine Kd.C_alloc ?_ _) | (with_reducible refine Kd.C_drewN ?_ _) | (with_reducible refine Kd.C_drew ?_))); (case side2 => exact (Kd.R_reads' HO288.out).2.1); (case side3 => repeat (first | exact (Kd.R_reads' HO290.out).2.2 | (with_reducible refine Kd.C_alloc ?_ _) | (with_reducible refine Kd.C_drewN ?_ _) | (with_reducible refine Kd.C_drew ?_))); (case side4 => exact (Kd.R_reads' HO290.out).2.1); rintro e w14 ⟨v293, rfl, ho0, hb⟩; refine ⟨_, rfl, ?_⟩; replace HO288 := Aside0.mk (Kd.R_below t19_ hb); replace HO290 := Aside0.mk (Kd.R_below t20_ hb); have HO294 := Aside0.mk (Kd.R_lower ho0 (below_size t0_)); replace HB := Aside0.mk (below_step t0_ hb); (try clear hb); (try clear hb2); (try clear hk); (try clear hi); (try clear ho0); obtain ⟨Ao15, co15, eo15⟩ := Kd.R_slice HO294.out; subst eo15) | ((with_reducible refine gate_callee (f := 25) rfl ?_); refine goesL_ (some 35) rfl rfl Try.func25 (by kernel_rfl) rfl #[.slice Ao12 t285.length co12, .agg #[.int .i64 1, .slice Ao15 t291.length co15]] rfl t4_ ?_; (with_reducible refine (impl_MapDo.calls k _ _ t285 1 _ _ t291 t295 t298 _ ?side1 ?side2 ?side3 ?side4 A6.out).mono ?_); (case side1 => repeat (first | exact (Kd.R_reads' HO288.out).2.2 | (with_reducible refine Kd.C_alloc ?_ _) | (with_reducible refine Kd.C_drewN ?_ _) | (with_reducible refine Kd.C_drew ?_))); (case side2 => exact (Kd.R_reads' HO288.out).2.1); (case side3 => repeat (first | exact (Kd.R_reads' HO294.out).2.2 | (with_reducible refine Kd.C_alloc ?_ _) | (with_reducible refine Kd.C_drewN ?_ _) | (with_reducible refine Kd.C_drew ?_))); (case side4 => exact (Kd.R_reads' HO294.out).2.1); rintro e w16 ⟨v296, rfl, ho0, hb⟩; refine ⟨_, rfl, ?_⟩; replace HO294 := Aside0.mk (Kd.R_below t24_ hb); have HO297 := Aside0.mk (Kd.R_lower (Kd.R_new' (Kd.R_new' ho0 (Kd.R_lt t19_)) (Kd.R_lt t20_)) (below_size t0_)); replace HO288 := Aside0.mk (Kd.R_elder' t19_ (Kd.R_base ho0) hb); replace HO290 := Aside0.mk (Kd.R_elder' t20_ (Kd.R_base ho0) hb); replace HB := Aside0.mk (below_step t0_ hb); (try clear hb); (try clear hb2); (try clear hk); (try clear hi); (try clear ho0)) | ((with_reducible refine gate_callee (f := 24) rfl ?_); refine goesL_ (some 41) rfl rfl Try.func24 (by kernel_rfl) rfl #[.slice Ao12 t285.length co12, .slice Ao12 t285.length co12] rfl t4_ ?_; (with_reducible refine (impl_MapBetween.calls k _ _ t285 _ _ t285 t299 t300 _ ?side1 ?side2 ?side3 ?side4 A7.out).mono ?_); (case side1 => repeat (first | exact (Kd.R_reads' HO288.out).2.2 | (with_reducible refine Kd.C_alloc ?_ _) | (with_reducible refine Kd.C_drewN ?_ _) | (with_reducible refine Kd.C_drew ?_))); (case side2 => exact (Kd.R_reads' HO288.out).2.1); (case side3 => repeat (first | exact (Kd.R_reads' HO288.out).2.2 | (with_reducible refine Kd.C_alloc ?_ _) | (with_reducible refine Kd.C_drewN ?_ _) | (with_reducible refine Kd.C_drew ?_))); (case side4 => exact (Kd.R_reads' HO288.out).2.1); rintro e w17 ⟨v301, rfl, ho0, hb⟩; refine ⟨_, rfl, ?_⟩; replace HO288 := Aside0.mk (Kd.R_below t19_ hb); replace HO290 := Aside0.mk (Kd.R_below t20_ hb); replace HO297 := Aside0.mk (Kd.R_below t31_ hb); have HO302 := Aside0.mk (Kd.R_lower (Kd.R_new' ho0 (Kd.R_lt t24_)) (below_size t0_)); replace HO294 := Aside0.mk (Kd.R_elder' t24_ (Kd.R_base ho0) hb); replace HB := Aside0.mk (below_step t0_ hb); (try clear hb); (try clear hb2); (try clear hk); (try clear hi); (try clear ho0)) | ((with_reducible refine gate_callee (f := 26) rfl ?_); refine goesL_ (some 46) rfl rfl Try.func26 (by kernel_rfl) rfl #[.slice Ao13 t286.length co13, .int .i64 7] rfl t4_ ?_; (with_reducible refine (impl_MapBatch.calls k _ _ t286 7 t303 t304 t307 _ ?side1 ?side2 A8.out).mono ?_); (case side1 => repeat (first | exact (Kd.R_reads' HO290.out).2.2 | (with_reducible refine Kd.C_alloc ?_ _) | (with_reducible refine Kd.C_drewN ?_ _) | (with_reducible refine Kd.C_drew ?_))); (case side2 => exact (Kd.R_reads' HO290.out).2.1); rintro e w18 ⟨v305, rfl, ho0, hb⟩; refine ⟨_, rfl, ?_⟩; replace HO288 := Aside0.mk (Kd.R_below t19_ hb); replace HO290 := Aside0.mk (Kd.R_below t20_ hb); replace HO297 := Aside0.mk (Kd.R_below t31_ hb); have HO306 := Aside0.mk (Kd.R_lower (Kd.R_new' (Kd.R_new' ho0 (Kd.R_lt t24_)) (Kd.R_lt t32_)) (below_size t0_)); replace HO294 := Aside0.mk (Kd.R_elder' t24_ (Kd.R_base ho0) hb); replace HO302 := Aside0.mk (Kd.R_elder' t32_ (Kd.R_base ho0) hb); replace HB := Aside0.mk (below_step t0_ hb); (try clear hb); (try clear hb2); (try clear hk); (try clear hi); (try clear ho0)) | ((with_reducible refine gate_dst (N := 11) rfl ?_); (try (refine gate_guard (by rfl) ?_; dsimp only)); refine boxE (N := 11) (cs := #[.int .i64 0, .slice none 0 0]) (t := 52) (h := ?_); intro gb308 hg w19 hbox hb; replace HO288 := Aside0.mk (Kd.R_below t19_ hb); replace HO290 := Aside0.mk (Kd.R_below t20_ hb); replace HO294 := Aside0.mk (Kd.R_below t24_ hb); replace HO297 := Aside0.mk (Kd.R_below t31_ hb); replace HO302 := Aside0.mk (Kd.R_below t32_ hb); replace HO306 := Aside0.mk (Kd.R_below (by (with_reducible repeat (first | apply Kd.R_alloc | apply Kd.R_drewN | apply Kd.R_drew)); exact HO306.out) hb); have BK308 := Aside0.mk (hbox); have GW308 := Aside0.mk ((t2_ : w.heap.size ≤ gb308)); have GE308 := Aside0.mk ((t2_ : w.heap.size ≤ gb308)); replace HB := Aside0.mk (below_step t0_ hb); clear hb hbox hg; have hcz20_0 := bc0 BK308; have hcz20_1 := bc1 BK308; have hfz20_0 := bf BK308 0; have hfz20_1 := bf BK308 1; obtain ⟨Ao21, co21, eo21⟩ := Kd.R_slice HO306.out; subst eo21) | ((with_reducible refine gate_dst (N := 50) rfl ?_); (try (refine gate_guard (by rfl) ?_; dsimp only)); refine Kd.R_lit k59 _ 59 ?hg (N := 50) ?hd (xs := ([] : List (S59))) (inner := []) (ok := fun _ => True) (okp := fun _ => True) ?hr ?hp (fun _ hk => hk) trivial (Below.refl _ _) (Nat.le_refl _) (by simp) ?_; (case hd => rfl); (case hg => rfl); (case hr => first | (go_simp; done) | (go_simp; rfl)); (case hp => exact (Reps.none _ _)); intro v310 w22 ho23 hb hg_ hnew_; clear hg_ hnew_; (first | rw [← Ny309.out] at ho23 | (simp only [Int.reduceToNat] at ho23; rw [← Ny309.out] at ho23)); replace HO294 := Aside0.mk (Kd.R_below (by (with_reducible repeat (first | apply Kd.R_alloc | apply Kd.R_drewN | apply Kd.R_drew)); exact (Kd.R_mono (Kd.R_far (p := ⟨gb308, 1, none⟩) (Kd.R_far (p := ⟨gb308, 0, none⟩) (Kd.R_types HO294.out BK308.out (by decide)) (fun _ hk => hk.2) (.int .i64 t303)) (fun _ hk => hk.2) (.slice Ao21 t304.length co21)) (fun _ h_ => h_.1))) hb); replace HO302 := Aside0.mk (Kd.R_below (by (with_reducible repeat (first | apply Kd.R_alloc | apply Kd.R_drewN | apply Kd.R_drew)); exact (Kd.R_mono (Kd.R_far (p := ⟨gb308, 1, none⟩) (Kd.R_far (p := ⟨gb308, 0, none⟩) (Kd.R_types HO302.out BK308.out (by decide)) (fun _ hk => hk.2) (.int .i64 t303)) (fun _ hk => hk.2) (.slice Ao21 t304.length co21)) (fun _ h_ => h_.1))) hb); replace HO306 := Aside0.mk (Kd.R_below (by (with_reducible repeat (first | apply Kd.R_alloc | apply Kd.R_drewN | apply Kd.R_drew)); exact (Kd.R_mono (Kd.R_far (p := ⟨gb308, 1, none⟩) (Kd.R_far (p := ⟨gb308, 0, none⟩) (Kd.R_types HO306.out BK308.out (by decide)) (fun _ hk => hk.2) (.int .i64 t303)) (fun _ hk => hk.2) (.slice Ao21 t304.length co21)) (fun _ h_ => h_.1))) hb); have HO311 := Aside0.mk (Kd.R_lower (Kd.R_new' (Kd.R_new' (Kd.R_new' ho23 (Kd.R_lt (by (with_reducible repeat (first | apply Kd.R_alloc | apply Kd.R_drewN | apply Kd.R_drew)); exact (Kd.R_mono (Kd.R_far (p := ⟨gb308, 1, none⟩) (Kd.R_far (p := ⟨gb308, 0, none⟩) (Kd.R_types HO288.out BK308.out (by decide)) (fun _ hk => hk.2) (.int .i64 t303)) (fun _ hk => hk.2) (.slice Ao21 t304.length co21)) (fun _ h_ => h_.1))))) (Kd.R_lt (by (with_reducible repeat (first | apply Kd.R_alloc | apply Kd.R_drewN | apply Kd.R_drew)); exact (Kd.R_mono (Kd.R_far (p := ⟨gb308, 1, none⟩) (Kd.R_far (p := ⟨gb308, 0, none⟩) (Kd.R_types HO290.out BK308.out (by decide)) (fun _ hk => hk.2) (.int .i64 t303)) (fun _ hk => hk.2) (.slice Ao21 t304.length co21)) (fun _ h_ => h_.1))))) (Kd.R_lt (by (with_reducible repeat (first | apply Kd.R_alloc | apply Kd.R_drewN | apply Kd.R_drew)); exact (Kd.R_mono (Kd.R_far (p := ⟨gb308, 1, none⟩) (Kd.R_far (p := ⟨gb308, 0, none⟩) (Kd.R_types HO297.out BK308.out (by decide)) (fun _ hk => hk.2) (.int .i64 t303)) (fun _ hk => hk.2) (.slice Ao21 t304.length co21)) (fun _ h_ => h_.1))))) (below_size t13_)); replace HO288 := Aside0.mk (Kd.R_elder' (by (with_reducible repeat (first | apply Kd.R_alloc | apply Kd.R_drewN | apply Kd.R_drew)); exact (Kd.R_mono (Kd.R_far (p := ⟨gb308, 1, none⟩) (Kd.R_far (p := ⟨gb308, 0, none⟩) (Kd.R_types HO288.out BK308.out (by decide)) (fun _ hk => hk.2) (.int .i64 t303)) (fun _ hk => hk.2) (.slice Ao21 t304.length co21)) (fun _ h_ => h_.1))) (Kd.R_base ho23) hb); replace HO290 := Aside0.mk (Kd.R_elder' (by (with_reducible repeat (first | apply Kd.R_alloc | apply Kd.R_drewN | apply Kd.R_drew)); exact (Kd.R_mono (Kd.R_far (p := ⟨gb308, 1, none⟩) (Kd.R_far (p := ⟨gb308, 0, none⟩) (Kd.R_types HO290.out BK308.out (by decide)) (fun _ hk => hk.2) (.int .i64 t303)) (fun _ hk => hk.2) (.slice Ao21 t304.length co21)) (fun _ h_ => h_.1))) (Kd.R_base ho23) hb); replace HO297 := Aside0.mk (Kd.R_elder' (by (with_reducible repeat (first | apply Kd.R_alloc | apply Kd.R_drewN | apply Kd.R_drew)); exact (Kd.R_mono (Kd.R_far (p := ⟨gb308, 1, none⟩) (Kd.R_far (p := ⟨gb308, 0, none⟩) (Kd.R_types HO297.out BK308.out (by decide)) (fun _ hk => hk.2) (.int .i64 t303)) (fun _ hk => hk.2) (.slice Ao21 t304.length co21)) (fun _ h_ => h_.1))) (Kd.R_base ho23) hb); replace BK308 := Aside0.mk (blk_below (g := gb308) (o := .cells #[.int .i64 t303, .slice Ao21 t304.length co21] 52 (0, 0)) (by (with_reducible repeat (first | refine blk_drewN ?_ _ | refine blk_drew ?_ | refine blk_alloc ?_ _)); refine blk_put (cs := #[.int .i64 t303, .slice none 0 0]) ?_ 1 _ rfl; (with_reducible repeat (first | refine blk_drewN ?_ _ | refine blk_drew ?_ | refine blk_alloc ?_ _)); refine blk_put (cs := #[.int .i64 0, .slice none 0 0]) ?_ 0 _ rfl; (with_reducible repeat (first | refine blk_drewN ?_ _ | refine blk_drew ?_ | refine blk_alloc ?_ _)); exact BK308.out) hb); replace HB := Aside0.mk (below_step t13_ hb); clear hb ho23; have hcz24_0 := bc0 BK308; have hcz24_1 := bc1 BK308; have hfz24_0 := bf BK308 0; have hfz24_1 := bf BK308 1; obtain ⟨Ao25, co25, eo25⟩ := Kd.R_slice HO311.out; subst eo25) | ((with_reducible refine gate_callee (f := 25) rfl ?_); refine goesL_ (some 52) rfl rfl Try.func25 (by kernel_rfl) rfl #[.slice Ao25 y309.length co25, .agg #[.int .i64 t303, .slice Ao21 t304.length co21]] rfl t4_ ?_; (with_reducible refine (impl_MapDo.calls k _ _ y309 t303 _ _ t304 t312 t315 _ ?side1 ?side2 ?side3 ?side4 A9.out).mono ?_); (case side1 => repeat (first | exact (Kd.R_reads' HO311.out).2.2 | (with_reducible refine Kd.C_alloc ?_ _) | (with_reducible refine Kd.C_drewN ?_ _) | (with_reducible refine Kd.C_drew ?_))); (case side2 => exact (Kd.R_reads' HO311.out).2.1); (case side3 => repeat (first | exact (Kd.R_reads' HO306.out).2.2 | (with_reducible refine Kd.C_alloc ?_ _) | (with_reducible refine Kd.C_drewN ?_ _) | (with_reducible refine Kd.C_drew ?_))); (case side4 => exact (Kd.R_reads' HO306.out).2.1); rintro e w26 ⟨v313, rfl, ho0, hb⟩; refine ⟨_, rfl, ?_⟩; replace HO294 := Aside0.mk (Kd.R_below t24_ hb); replace HO302 := Aside0.mk (Kd.R_below t32_ hb); replace HO306 := Aside0.mk (Kd.R_below (by (with_reducible repeat (first | apply Kd.R_alloc | apply Kd.R_drewN | apply Kd.R_drew)); exact HO306.out) hb); have HO314 := Aside0.mk (Kd.R_lower (Kd.R_new' (Kd.R_new' (Kd.R_new' (Kd.R_new' ho0 (Kd.R_lt t19_)) (Kd.R_lt t20_)) (Kd.R_lt t31_)) (Kd.R_lt (by (with_reducible repeat (first | apply Kd.R_alloc | apply Kd.R_drewN | apply Kd.R_drew)); exact HO311.out))) (below_size t13_)); replace HO288 := Aside0.mk (Kd.R_elder' t19_ (Kd.R_base ho0) hb); replace HO290 := Aside0.mk (Kd.R_elder' t20_ (Kd.R_base ho0) hb); replace HO297 := Aside0.mk (Kd.R_elder' t31_ (Kd.R_base ho0) hb); replace HO311 := Aside0.mk (Kd.R_elder' (by (with_reducible repeat (first | apply Kd.R_alloc | apply Kd.R_drewN | apply Kd.R_drew)); exact HO311.out) (Kd.R_base ho0) hb); replace BK308 := bkN BK308 hb; replace HB := Aside0.mk (below_step t13_ hb); (try clear hb); (try clear hb2); (try clear hk); (try clear hi); (try clear ho0)))
    (try simp only [Act.put, List.setIfInBounds_toArray, List.set_cons_zero, List.set_cons_succ])
    go_cut [94] (fun v94 wc => ∃ (kq : Nat) (x94_9 : Bool), v94 = .bool x94_9 ∧ Aside0 (laws_FnMaps.j0 kq t285 t286 t291 t295 x94_9 = some r) ∧ Aside0 (kq ≤ k) ∧ Aside0 (Kd.R k59 59 wc w.heap.size (fun k_ => some k_ ≠ ((.slice Ao13 t286.length co13) : Value).ownBlock ∧ some k_ ≠ (v296 : Value).ownBlock) (.slice Ao12 t285.length co12) t285) ∧ Aside0 (Kd.R k59 59 wc w.heap.size (fun k_ => some k_ ≠ ((.slice Ao12 t285.length co12) : Value).ownBlock ∧ some k_ ≠ (v296 : Value).ownBlock) (.slice Ao13 t286.length co13) t286) ∧ Aside0 (Kd.R k109 109 wc w.heap.size (fun k_ => some k_ ≠ ((.slice Ao21 t304.length co21) : Value).ownBlock) (.slice Ao15 t291.length co15) t291) ∧ Aside0 (Kd.R k59 59 wc w.heap.size (fun k_ => some k_ ≠ ((.slice Ao12 t285.length co12) : Value).ownBlock ∧ some k_ ≠ ((.slice Ao13 t286.length co13) : Value).ownBlock) v296 t295) ∧ Aside0 (Kd.R k109 109 wc w.heap.size (fun k_ => some k_ ≠ ((.slice Ao15 t291.length co15) : Value).ownBlock) (.slice Ao21 t304.length co21) t304) ∧ Aside0 (wc.heap[gb308]? = some (.cells #[.int .i64 t303, (.slice Ao21 t304.length co21)] 52 (0, 0))) ∧ Aside0 (Below w.heap.size w wc))
    case first =>
      have H := HC10.out
      clear HC10
      by_cases c27 : t292 = true
      · subst c27
        have H1 : (if t298 = true then (if t300 = true then (if t307 = true then (if t315 = true then (if (t299.length : Int) = 0 then ((laws_sameMap.f k t295 t286).bind fun t316 => (if t316 = true then ((laws_sameMap.f k t312 t286).bind fun t317 => (if t317 = true then (laws_FnMaps.j0 k t285 t286 t291 t295 (t303 != 7)) else (laws_FnMaps.j0 k t285 t286 t291 t295 true))) else (laws_FnMaps.j0 k t285 t286 t291 t295 true))) else (laws_FnMaps.j0 k t285 t286 t291 t295 true)) else (laws_FnMaps.j0 k t285 t286 t291 t295 true)) else (laws_FnMaps.j0 k t285 t286 t291 t295 true)) else (laws_FnMaps.j0 k t285 t286 t291 t295 true)) else (laws_FnMaps.j0 k t285 t286 t291 t295 true)) = some r := by rw [if_pos rfl] at H; exact H
        clear H
        have H := H1
        clear H1
        by_cases c28 : t298 = true
        · subst c28
          have H1 : (if t300 = true then (if t307 = true then (if t315 = true then (if (t299.length : Int) = 0 then ((laws_sameMap.f k t295 t286).bind fun t316 => (if t316 = true then ((laws_sameMap.f k t312 t286).bind fun t317 => (if t317 = true then (laws_FnMaps.j0 k t285 t286 t291 t295 (t303 != 7)) else (laws_FnMaps.j0 k t285 t286 t291 t295 true))) else (laws_FnMaps.j0 k t285 t286 t291 t295 true))) else (laws_FnMaps.j0 k t285 t286 t291 t295 true)) else (laws_FnMaps.j0 k t285 t286 t291 t295 true)) else (laws_FnMaps.j0 k t285 t286 t291 t295 true)) else (laws_FnMaps.j0 k t285 t286 t291 t295 true)) = some r := by rw [if_pos rfl] at H; exact H
          clear H
          have H := H1
          clear H1
          by_cases c29 : t300 = true
          · subst c29
            have H1 : (if t307 = true then (if t315 = true then (if (t299.length : Int) = 0 then ((laws_sameMap.f k t295 t286).bind fun t316 => (if t316 = true then ((laws_sameMap.f k t312 t286).bind fun t317 => (if t317 = true then (laws_FnMaps.j0 k t285 t286 t291 t295 (t303 != 7)) else (laws_FnMaps.j0 k t285 t286 t291 t295 true))) else (laws_FnMaps.j0 k t285 t286 t291 t295 true))) else (laws_FnMaps.j0 k t285 t286 t291 t295 true)) else (laws_FnMaps.j0 k t285 t286 t291 t295 true)) else (laws_FnMaps.j0 k t285 t286 t291 t295 true)) = some r := by rw [if_pos rfl] at H; exact H
            clear H
            have H := H1
            clear H1
            by_cases c30 : t307 = true
            · subst c30
              have H1 : (if t315 = true then (if (t299.length : Int) = 0 then ((laws_sameMap.f k t295 t286).bind fun t316 => (if t316 = true then ((laws_sameMap.f k t312 t286).bind fun t317 => (if t317 = true then (laws_FnMaps.j0 k t285 t286 t291 t295 (t303 != 7)) else (laws_FnMaps.j0 k t285 t286 t291 t295 true))) else (laws_FnMaps.j0 k t285 t286 t291 t295 true))) else (laws_FnMaps.j0 k t285 t286 t291 t295 true)) else (laws_FnMaps.j0 k t285 t286 t291 t295 true)) = some r := by rw [if_pos rfl] at H; exact H
              clear H
              have H := H1
              clear H1
              by_cases c31 : t315 = true
              · subst c31
                have H1 : (if (t299.length : Int) = 0 then ((laws_sameMap.f k t295 t286).bind fun t316 => (if t316 = true then ((laws_sameMap.f k t312 t286).bind fun t317 => (if t317 = true then (laws_FnMaps.j0 k t285 t286 t291 t295 (t303 != 7)) else (laws_FnMaps.j0 k t285 t286 t291 t295 true))) else (laws_FnMaps.j0 k t285 t286 t291 t295 true))) else (laws_FnMaps.j0 k t285 t286 t291 t295 true)) = some r := by rw [if_pos rfl] at H; exact H
                clear H
                have H := H1
                clear H1
                by_cases c32 : (t299.length : Int) = 0
                · rw [if_pos c32] at H
                  have c32b0 : ((t299.length : Int) == 0) = true := beq_iff_eq.mpr c32
                  have c32b1 : ((t299.length : Int) != 0) = false := bne_eq_false_iff_eq.mpr c32
                  clear c32
                  (first | rw [c32b0] | (simp only [i64_w, i32_w]; rw [c32b0]) | skip)
                  replace H := Option.bind_eq_some_iff.mp H
                  obtain ⟨t316, A330, H⟩ := H
                  replace H : (if t316 = true then ((laws_sameMap.f k t312 t286).bind fun t317 => (if t317 = true then (laws_FnMaps.j0 k t285 t286 t291 t295 (t303 != 7)) else (laws_FnMaps.j0 k t285 t286 t291 t295 true))) else (laws_FnMaps.j0 k t285 t286 t291 t295 true)) = some r := H
                  have A33 := Aside0.mk A330
                  clear A330
                  by_cases c34 : t316 = true
                  · subst c34
                    have H1 : ((laws_sameMap.f k t312 t286).bind fun t317 => (if t317 = true then (laws_FnMaps.j0 k t285 t286 t291 t295 (t303 != 7)) else (laws_FnMaps.j0 k t285 t286 t291 t295 true))) = some r := by rw [if_pos rfl] at H; exact H
                    clear H
                    have H := H1
                    clear H1
                    replace H := Option.bind_eq_some_iff.mp H
                    obtain ⟨t317, A350, H⟩ := H
                    replace H : (if t317 = true then (laws_FnMaps.j0 k t285 t286 t291 t295 (t303 != 7)) else (laws_FnMaps.j0 k t285 t286 t291 t295 true)) = some r := H
                    have A35 := Aside0.mk A350
                    clear A350
                    by_cases c36 : t317 = true
                    · subst c36
                      have H1 : (laws_FnMaps.j0 k t285 t286 t291 t295 (t303 != 7)) = some r := by rw [if_pos rfl] at H; exact H
                      clear H
                      have H := H1
                      clear H1
                      have H' := Aside0.mk H
                      clear H
                      obtain ⟨Ao37, co37, eo37⟩ := Kd.R_slice HO302.out
                      subst eo37
                      obtain ⟨Ao38, co38, eo38⟩ := Kd.R_slice HO297.out
                      subst eo38
                      go_wp2_with (first | (go_at_call 27; (with_reducible refine (laws_sameMap.calls k _ _ t295 _ _ t286 true _ ?side1 ?side2 ?side3 ?side4 A33.out).mono ?_); (case side1 => repeat (first | exact (Kd.R_reads' HO297.out).2.2 | (with_reducible refine Kd.C_alloc ?_ _) | (with_reducible refine Kd.C_drewN ?_ _) | (with_reducible refine Kd.C_drew ?_))); (case side2 => exact (Kd.R_reads' HO297.out).2.1); (case side3 => repeat (first | exact (Kd.R_reads' HO290.out).2.2 | (with_reducible refine Kd.C_alloc ?_ _) | (with_reducible refine Kd.C_drewN ?_ _) | (with_reducible refine Kd.C_drew ?_))); (case side4 => exact (Kd.R_reads' HO290.out).2.1); rintro e w' ⟨rfl, ⟨nd, rfl⟩⟩; obtain ⟨Ao39, co39, eo39⟩ := Kd.R_slice HO314.out; subst eo39) | (go_at_call 27; (with_reducible refine (laws_sameMap.calls k _ _ t312 _ _ t286 true _ ?side1 ?side2 ?side3 ?side4 A35.out).mono ?_); (case side1 => repeat (first | exact (Kd.R_reads' HO314.out).2.2 | (with_reducible refine Kd.C_alloc ?_ _) | (with_reducible refine Kd.C_drewN ?_ _) | (with_reducible refine Kd.C_drew ?_))); (case side2 => exact (Kd.R_reads' HO314.out).2.1); (case side3 => repeat (first | exact (Kd.R_reads' HO290.out).2.2 | (with_reducible refine Kd.C_alloc ?_ _) | (with_reducible refine Kd.C_drewN ?_ _) | (with_reducible refine Kd.C_drew ?_))); (case side4 => exact (Kd.R_reads' HO290.out).2.1); rintro e w' ⟨rfl, ⟨nd, rfl⟩⟩; have hcz40_0 := bc0 BK308; have hcz40_1 := bc1 BK308; have hfz40_0 := bf BK308 0; have hfz40_1 := bf BK308 1))
                      go_meet
                      case rel => exact ⟨_, ((t303 != 7)), t14_, H', ⟨by first | omega | exact Nat.le_refl _⟩, ⟨by (with_reducible repeat (first | apply Kd.R_alloc | apply Kd.R_drewN | apply Kd.R_drew)); exact Kd.R_mono HO288.out (fun _ hk => ⟨hk.1.1.1, hk.1.1.2⟩)⟩, ⟨by (with_reducible repeat (first | apply Kd.R_alloc | apply Kd.R_drewN | apply Kd.R_drew)); exact Kd.R_mono HO290.out (fun _ hk => ⟨hk.1.1.1, hk.1.1.2⟩)⟩, ⟨by (with_reducible repeat (first | apply Kd.R_alloc | apply Kd.R_drewN | apply Kd.R_drew)); exact Kd.R_mono HO294.out (fun _ hk => hk.2)⟩, ⟨by (with_reducible repeat (first | apply Kd.R_alloc | apply Kd.R_drewN | apply Kd.R_drew)); exact Kd.R_mono HO297.out (fun _ hk => ⟨hk.1.1.1.2, hk.1.1.2⟩)⟩, ⟨by (with_reducible repeat (first | apply Kd.R_alloc | apply Kd.R_drewN | apply Kd.R_drew)); exact Kd.R_mono HO306.out (fun _ hk => hk.1.2)⟩, ⟨by (with_reducible repeat (first | refine blk_drewN ?_ _ | refine blk_drew ?_ | refine blk_alloc ?_ _)); exact BK308.out⟩, ⟨t13_⟩⟩
                    · replace c36 := Bool.eq_false_iff.mpr c36
                      subst c36
                      have H1 : (laws_FnMaps.j0 k t285 t286 t291 t295 true) = some r := by rw [if_neg (show ¬ (false = true) by decide)] at H; exact H
                      clear H
                      have H := H1
                      clear H1
                      have H' := Aside0.mk H
                      clear H
                      obtain ⟨Ao41, co41, eo41⟩ := Kd.R_slice HO302.out
                      subst eo41
                      obtain ⟨Ao42, co42, eo42⟩ := Kd.R_slice HO297.out
                      subst eo42
                      go_wp2_with (first | (go_at_call 27; (with_reducible refine (laws_sameMap.calls k _ _ t295 _ _ t286 true _ ?side1 ?side2 ?side3 ?side4 A33.out).mono ?_); (case side1 => repeat (first | exact (Kd.R_reads' HO297.out).2.2 | (with_reducible refine Kd.C_alloc ?_ _) | (with_reducible refine Kd.C_drewN ?_ _) | (with_reducible refine Kd.C_drew ?_))); (case side2 => exact (Kd.R_reads' HO297.out).2.1); (case side3 => repeat (first | exact (Kd.R_reads' HO290.out).2.2 | (with_reducible refine Kd.C_alloc ?_ _) | (with_reducible refine Kd.C_drewN ?_ _) | (with_reducible refine Kd.C_drew ?_))); (case side4 => exact (Kd.R_reads' HO290.out).2.1); rintro e w' ⟨rfl, ⟨nd, rfl⟩⟩; obtain ⟨Ao43, co43, eo43⟩ := Kd.R_slice HO314.out; subst eo43) | (go_at_call 27; (with_reducible refine (laws_sameMap.calls k _ _ t312 _ _ t286 false _ ?side1 ?side2 ?side3 ?side4 A35.out).mono ?_); (case side1 => repeat (first | exact (Kd.R_reads' HO314.out).2.2 | (with_reducible refine Kd.C_alloc ?_ _) | (with_reducible refine Kd.C_drewN ?_ _) | (with_reducible refine Kd.C_drew ?_))); (case side2 => exact (Kd.R_reads' HO314.out).2.1); (case side3 => repeat (first | exact (Kd.R_reads' HO290.out).2.2 | (with_reducible refine Kd.C_alloc ?_ _) | (with_reducible refine Kd.C_drewN ?_ _) | (with_reducible refine Kd.C_drew ?_))); (case side4 => exact (Kd.R_reads' HO290.out).2.1); rintro e w' ⟨rfl, ⟨nd, rfl⟩⟩))
                      go_meet
                      case rel => exact ⟨_, (true), t14_, H', ⟨by first | omega | exact Nat.le_refl _⟩, ⟨by (with_reducible repeat (first | apply Kd.R_alloc | apply Kd.R_drewN | apply Kd.R_drew)); exact Kd.R_mono HO288.out (fun _ hk => ⟨hk.1.1.1, hk.1.1.2⟩)⟩, ⟨by (with_reducible repeat (first | apply Kd.R_alloc | apply Kd.R_drewN | apply Kd.R_drew)); exact Kd.R_mono HO290.out (fun _ hk => ⟨hk.1.1.1, hk.1.1.2⟩)⟩, ⟨by (with_reducible repeat (first | apply Kd.R_alloc | apply Kd.R_drewN | apply Kd.R_drew)); exact Kd.R_mono HO294.out (fun _ hk => hk.2)⟩, ⟨by (with_reducible repeat (first | apply Kd.R_alloc | apply Kd.R_drewN | apply Kd.R_drew)); exact Kd.R_mono HO297.out (fun _ hk => ⟨hk.1.1.1.2, hk.1.1.2⟩)⟩, ⟨by (with_reducible repeat (first | apply Kd.R_alloc | apply Kd.R_drewN | apply Kd.R_drew)); exact Kd.R_mono HO306.out (fun _ hk => hk.1.2)⟩, ⟨by (with_reducible repeat (first | refine blk_drewN ?_ _ | refine blk_drew ?_ | refine blk_alloc ?_ _)); exact BK308.out⟩, ⟨t13_⟩⟩
                  · replace c34 := Bool.eq_false_iff.mpr c34
                    subst c34
                    have H1 : (laws_FnMaps.j0 k t285 t286 t291 t295 true) = some r := by rw [if_neg (show ¬ (false = true) by decide)] at H; exact H
                    clear H
                    have H := H1
                    clear H1
                    have H' := Aside0.mk H
                    clear H
                    obtain ⟨Ao44, co44, eo44⟩ := Kd.R_slice HO302.out
                    subst eo44
                    obtain ⟨Ao45, co45, eo45⟩ := Kd.R_slice HO297.out
                    subst eo45
                    go_wp2_with (first | (go_at_call 27; (with_reducible refine (laws_sameMap.calls k _ _ t295 _ _ t286 false _ ?side1 ?side2 ?side3 ?side4 A33.out).mono ?_); (case side1 => repeat (first | exact (Kd.R_reads' HO297.out).2.2 | (with_reducible refine Kd.C_alloc ?_ _) | (with_reducible refine Kd.C_drewN ?_ _) | (with_reducible refine Kd.C_drew ?_))); (case side2 => exact (Kd.R_reads' HO297.out).2.1); (case side3 => repeat (first | exact (Kd.R_reads' HO290.out).2.2 | (with_reducible refine Kd.C_alloc ?_ _) | (with_reducible refine Kd.C_drewN ?_ _) | (with_reducible refine Kd.C_drew ?_))); (case side4 => exact (Kd.R_reads' HO290.out).2.1); rintro e w' ⟨rfl, ⟨nd, rfl⟩⟩))
                    go_meet
                    case rel => exact ⟨_, (true), t14_, H', ⟨by first | omega | exact Nat.le_refl _⟩, ⟨by (with_reducible repeat (first | apply Kd.R_alloc | apply Kd.R_drewN | apply Kd.R_drew)); exact Kd.R_mono HO288.out (fun _ hk => ⟨hk.1.1.1, hk.1.1.2⟩)⟩, ⟨by (with_reducible repeat (first | apply Kd.R_alloc | apply Kd.R_drewN | apply Kd.R_drew)); exact Kd.R_mono HO290.out (fun _ hk => ⟨hk.1.1.1, hk.1.1.2⟩)⟩, ⟨by (with_reducible repeat (first | apply Kd.R_alloc | apply Kd.R_drewN | apply Kd.R_drew)); exact Kd.R_mono HO294.out (fun _ hk => hk.2)⟩, ⟨by (with_reducible repeat (first | apply Kd.R_alloc | apply Kd.R_drewN | apply Kd.R_drew)); exact Kd.R_mono HO297.out (fun _ hk => ⟨hk.1.1.1.2, hk.1.1.2⟩)⟩, ⟨by (with_reducible repeat (first | apply Kd.R_alloc | apply Kd.R_drewN | apply Kd.R_drew)); exact Kd.R_mono HO306.out (fun _ hk => hk.1.2)⟩, ⟨by (with_reducible repeat (first | refine blk_drewN ?_ _ | refine blk_drew ?_ | refine blk_alloc ?_ _)); exact BK308.out⟩, ⟨t13_⟩⟩
                · rw [if_neg c32] at H
                  have c32b0 : ((t299.length : Int) == 0) = false := beq_eq_false_iff_ne.mpr c32
                  have c32b1 : ((t299.length : Int) != 0) = true := bne_iff_ne.mpr c32
                  have c32b2 : ¬ (t299 = []) := fun h_ => c32 (by rw [h_]; rfl)
                  (first | rw [c32b0] | (simp only [i64_w, i32_w]; rw [c32b0]) | skip)
                  have H' := Aside0.mk H
                  clear H
                  obtain ⟨Ao46, co46, eo46⟩ := Kd.R_slice HO302.out
                  subst eo46
                  go_wp2
                  go_meet
                  case rel => exact ⟨_, (true), t14_, H', ⟨by first | omega | exact Nat.le_refl _⟩, ⟨by (with_reducible repeat (first | apply Kd.R_alloc | apply Kd.R_drewN | apply Kd.R_drew)); exact Kd.R_mono HO288.out (fun _ hk => ⟨hk.1.1.1, hk.1.1.2⟩)⟩, ⟨by (with_reducible repeat (first | apply Kd.R_alloc | apply Kd.R_drewN | apply Kd.R_drew)); exact Kd.R_mono HO290.out (fun _ hk => ⟨hk.1.1.1, hk.1.1.2⟩)⟩, ⟨by (with_reducible repeat (first | apply Kd.R_alloc | apply Kd.R_drewN | apply Kd.R_drew)); exact Kd.R_mono HO294.out (fun _ hk => hk.2)⟩, ⟨by (with_reducible repeat (first | apply Kd.R_alloc | apply Kd.R_drewN | apply Kd.R_drew)); exact Kd.R_mono HO297.out (fun _ hk => ⟨hk.1.1.1.2, hk.1.1.2⟩)⟩, ⟨by (with_reducible repeat (first | apply Kd.R_alloc | apply Kd.R_drewN | apply Kd.R_drew)); exact Kd.R_mono HO306.out (fun _ hk => hk.1.2)⟩, ⟨by (with_reducible repeat (first | refine blk_drewN ?_ _ | refine blk_drew ?_ | refine blk_alloc ?_ _)); exact BK308.out⟩, ⟨t13_⟩⟩
              · replace c31 := Bool.eq_false_iff.mpr c31
                subst c31
                have H1 : (laws_FnMaps.j0 k t285 t286 t291 t295 true) = some r := by rw [if_neg (show ¬ (false = true) by decide)] at H; exact H
                clear H
                have H := H1
                clear H1
                have H' := Aside0.mk H
                clear H
                go_wp2
                go_meet
                case rel => exact ⟨_, (true), t14_, H', ⟨by first | omega | exact Nat.le_refl _⟩, ⟨by (with_reducible repeat (first | apply Kd.R_alloc | apply Kd.R_drewN | apply Kd.R_drew)); exact Kd.R_mono HO288.out (fun _ hk => ⟨hk.1.1.1, hk.1.1.2⟩)⟩, ⟨by (with_reducible repeat (first | apply Kd.R_alloc | apply Kd.R_drewN | apply Kd.R_drew)); exact Kd.R_mono HO290.out (fun _ hk => ⟨hk.1.1.1, hk.1.1.2⟩)⟩, ⟨by (with_reducible repeat (first | apply Kd.R_alloc | apply Kd.R_drewN | apply Kd.R_drew)); exact Kd.R_mono HO294.out (fun _ hk => hk.2)⟩, ⟨by (with_reducible repeat (first | apply Kd.R_alloc | apply Kd.R_drewN | apply Kd.R_drew)); exact Kd.R_mono HO297.out (fun _ hk => ⟨hk.1.1.1.2, hk.1.1.2⟩)⟩, ⟨by (with_reducible repeat (first | apply Kd.R_alloc | apply Kd.R_drewN | apply Kd.R_drew)); exact Kd.R_mono HO306.out (fun _ hk => hk.1.2)⟩, ⟨by (with_reducible repeat (first | refine blk_drewN ?_ _ | refine blk_drew ?_ | refine blk_alloc ?_ _)); exact BK308.out⟩, ⟨t13_⟩⟩
            · replace c30 := Bool.eq_false_iff.mpr c30
              subst c30
              have H1 : (laws_FnMaps.j0 k t285 t286 t291 t295 true) = some r := by rw [if_neg (show ¬ (false = true) by decide)] at H; exact H
              clear H
              have H := H1
              clear H1
              have H' := Aside0.mk H
              clear H
              go_wp2
              go_meet
              case rel => exact ⟨_, (true), t14_, H', ⟨by first | omega | exact Nat.le_refl _⟩, ⟨by (with_reducible repeat (first | apply Kd.R_alloc | apply Kd.R_drewN | apply Kd.R_drew)); exact Kd.R_mono HO288.out (fun _ hk => ⟨hk.1.1.1, hk.1.1.2⟩)⟩, ⟨by (with_reducible repeat (first | apply Kd.R_alloc | apply Kd.R_drewN | apply Kd.R_drew)); exact Kd.R_mono HO290.out (fun _ hk => ⟨hk.1.1.1, hk.1.1.2⟩)⟩, ⟨by (with_reducible repeat (first | apply Kd.R_alloc | apply Kd.R_drewN | apply Kd.R_drew)); exact Kd.R_mono HO294.out (fun _ hk => hk.2)⟩, ⟨by (with_reducible repeat (first | apply Kd.R_alloc | apply Kd.R_drewN | apply Kd.R_drew)); exact Kd.R_mono HO297.out (fun _ hk => ⟨hk.1.1.1.2, hk.1.1.2⟩)⟩, ⟨by (with_reducible repeat (first | apply Kd.R_alloc | apply Kd.R_drewN | apply Kd.R_drew)); exact Kd.R_mono HO306.out (fun _ hk => hk.1.2)⟩, ⟨by (with_reducible repeat (first | refine blk_drewN ?_ _ | refine blk_drew ?_ | refine blk_alloc ?_ _)); exact BK308.out⟩, ⟨t13_⟩⟩
          · replace c29 := Bool.eq_false_iff.mpr c29
            subst c29
            have H1 : (laws_FnMaps.j0 k t285 t286 t291 t295 true) = some r := by rw [if_neg (show ¬ (false = true) by decide)] at H; exact H
            clear H
            have H := H1
            clear H1
            have H' := Aside0.mk H
            clear H
            go_wp2
            go_meet
            case rel => exact ⟨_, (true), t14_, H', ⟨by first | omega | exact Nat.le_refl _⟩, ⟨by (with_reducible repeat (first | apply Kd.R_alloc | apply Kd.R_drewN | apply Kd.R_drew)); exact Kd.R_mono HO288.out (fun _ hk => ⟨hk.1.1.1, hk.1.1.2⟩)⟩, ⟨by (with_reducible repeat (first | apply Kd.R_alloc | apply Kd.R_drewN | apply Kd.R_drew)); exact Kd.R_mono HO290.out (fun _ hk => ⟨hk.1.1.1, hk.1.1.2⟩)⟩, ⟨by (with_reducible repeat (first | apply Kd.R_alloc | apply Kd.R_drewN | apply Kd.R_drew)); exact Kd.R_mono HO294.out (fun _ hk => hk.2)⟩, ⟨by (with_reducible repeat (first | apply Kd.R_alloc | apply Kd.R_drewN | apply Kd.R_drew)); exact Kd.R_mono HO297.out (fun _ hk => ⟨hk.1.1.1.2, hk.1.1.2⟩)⟩, ⟨by (with_reducible repeat (first | apply Kd.R_alloc | apply Kd.R_drewN | apply Kd.R_drew)); exact Kd.R_mono HO306.out (fun _ hk => hk.1.2)⟩, ⟨by (with_reducible repeat (first | refine blk_drewN ?_ _ | refine blk_drew ?_ | refine blk_alloc ?_ _)); exact BK308.out⟩, ⟨t13_⟩⟩
        · replace c28 := Bool.eq_false_iff.mpr c28
          subst c28
          have H1 : (laws_FnMaps.j0 k t285 t286 t291 t295 true) = some r := by rw [if_neg (show ¬ (false = true) by decide)] at H; exact H
          clear H
          have H := H1
          clear H1
          have H' := Aside0.mk H
          clear H
          go_wp2
          go_meet
          case rel => exact ⟨_, (true), t14_, H', ⟨by first | omega | exact Nat.le_refl _⟩, ⟨by (with_reducible repeat (first | apply Kd.R_alloc | apply Kd.R_drewN | apply Kd.R_drew)); exact Kd.R_mono HO288.out (fun _ hk => ⟨hk.1.1.1, hk.1.1.2⟩)⟩, ⟨by (with_reducible repeat (first | apply Kd.R_alloc | apply Kd.R_drewN | apply Kd.R_drew)); exact Kd.R_mono HO290.out (fun _ hk => ⟨hk.1.1.1, hk.1.1.2⟩)⟩, ⟨by (with_reducible repeat (first | apply Kd.R_alloc | apply Kd.R_drewN | apply Kd.R_drew)); exact Kd.R_mono HO294.out (fun _ hk => hk.2)⟩, ⟨by (with_reducible repeat (first | apply Kd.R_alloc | apply Kd.R_drewN | apply Kd.R_drew)); exact Kd.R_mono HO297.out (fun _ hk => ⟨hk.1.1.1.2, hk.1.1.2⟩)⟩, ⟨by (with_reducible repeat (first | apply Kd.R_alloc | apply Kd.R_drewN | apply Kd.R_drew)); exact Kd.R_mono HO306.out (fun _ hk => hk.1.2)⟩, ⟨by (with_reducible repeat (first | refine blk_drewN ?_ _ | refine blk_drew ?_ | refine blk_alloc ?_ _)); exact BK308.out⟩, ⟨t13_⟩⟩
      · replace c27 := Bool.eq_false_iff.mpr c27
        subst c27
        have H1 : (laws_FnMaps.j0 k t285 t286 t291 t295 true) = some r := by rw [if_neg (show ¬ (false = true) by decide)] at H; exact H
        clear H
        have H := H1
        clear H1
        have H' := Aside0.mk H
        clear H
        go_wp2
        go_meet
        case rel => exact ⟨_, (true), t14_, H', ⟨by first | omega | exact Nat.le_refl _⟩, ⟨by (with_reducible repeat (first | apply Kd.R_alloc | apply Kd.R_drewN | apply Kd.R_drew)); exact Kd.R_mono HO288.out (fun _ hk => ⟨hk.1.1.1, hk.1.1.2⟩)⟩, ⟨by (with_reducible repeat (first | apply Kd.R_alloc | apply Kd.R_drewN | apply Kd.R_drew)); exact Kd.R_mono HO290.out (fun _ hk => ⟨hk.1.1.1, hk.1.1.2⟩)⟩, ⟨by (with_reducible repeat (first | apply Kd.R_alloc | apply Kd.R_drewN | apply Kd.R_drew)); exact Kd.R_mono HO294.out (fun _ hk => hk.2)⟩, ⟨by (with_reducible repeat (first | apply Kd.R_alloc | apply Kd.R_drewN | apply Kd.R_drew)); exact Kd.R_mono HO297.out (fun _ hk => ⟨hk.1.1.1.2, hk.1.1.2⟩)⟩, ⟨by (with_reducible repeat (first | apply Kd.R_alloc | apply Kd.R_drewN | apply Kd.R_drew)); exact Kd.R_mono HO306.out (fun _ hk => hk.1.2)⟩, ⟨by (with_reducible repeat (first | refine blk_drewN ?_ _ | refine blk_drew ?_ | refine blk_alloc ?_ _)); exact BK308.out⟩, ⟨t13_⟩⟩
    case rest =>
      clear HC10
      try clear c2
      try clear p2
      try clear c3
      try clear c4
      try clear c22
      try clear c23
      try clear c24
      try clear c25
      try clear c26
      try clear c27
      try clear c28
      try clear c29
      try clear c30
      try clear c31
      try clear c32
      try clear c32b0
      try clear c32b1
      try clear c32b2
      try clear c34
      try clear c36
      try clear hcz20_0
      try clear hcz20_1
      try clear hcz24_0
      try clear hcz24_1
      try clear hcz40_0
      try clear hcz40_1
      try clear hfz20_0
      try clear hfz20_1
      try clear hfz24_0
      try clear hfz24_1
      try clear hfz40_0
      try clear hfz40_1
      obtain ⟨kq, x94_9, rfl, HA, HJ9, HO_3, HO_4, HO_5, HO_7, HO_309001, BK308, HB⟩ := hcut
      cases kq with
      | zero => exact absurd HA.out (by simp [laws_FnMaps.j0])
      | succ kj9 =>
        have H := HA.out
        clear HA
        simp only [laws_FnMaps.j0] at H
        by_cases c47 : x94_9 = true
        · subst c47
          have H1 : (none) = some r := by rw [if_pos rfl] at H; exact H
          clear H
          have H := H1
          clear H1
          exact absurd H (by simp)
        · replace c47 := Bool.eq_false_iff.mpr c47
          subst c47
          have H1 : (laws_FnMaps.l0 kj9 t285 t286 t291 t295 0) = some r := by rw [if_neg (show ¬ (false = true) by decide)] at H; exact H
          clear H
          have H := H1
          clear H1
          have H' := Aside0.mk H
          clear H
          go_wp2
          go_loopg [15] kj9 (fun kq v15 w' => ∃ (x15_2 : Int), v15 = .int .i64 x15_2 ∧ Aside0 (laws_FnMaps.l0 kq t285 t286 t291 t295 x15_2 = some r) ∧ Aside0 (kq ≤ kj9) ∧ Aside0 (Kd.R k59 59 w' w.heap.size (fun k_ => some k_ ≠ ((.slice Ao13 t286.length co13) : Value).ownBlock ∧ some k_ ≠ (v296 : Value).ownBlock) (.slice Ao12 t285.length co12) t285) ∧ Aside0 (Kd.R k59 59 w' w.heap.size (fun k_ => some k_ ≠ ((.slice Ao12 t285.length co12) : Value).ownBlock ∧ some k_ ≠ (v296 : Value).ownBlock) (.slice Ao13 t286.length co13) t286) ∧ Aside0 (Kd.R k109 109 w' w.heap.size (fun k_ => some k_ ≠ ((.slice Ao21 t304.length co21) : Value).ownBlock) (.slice Ao15 t291.length co15) t291) ∧ Aside0 (Kd.R k59 59 w' w.heap.size (fun k_ => some k_ ≠ ((.slice Ao12 t285.length co12) : Value).ownBlock ∧ some k_ ≠ ((.slice Ao13 t286.length co13) : Value).ownBlock) v296 t295) ∧ Aside0 (Kd.R k109 109 w' w.heap.size (fun k_ => some k_ ≠ ((.slice Ao15 t291.length co15) : Value).ownBlock) (.slice Ao21 t304.length co21) t304) ∧ Aside0 (w'.heap[gb308]? = some (.cells #[.int .i64 t303, (.slice Ao21 t304.length co21)] 52 (0, 0))) ∧ Aside0 (Below w.heap.size w w'))
          case atStart => exact ⟨(0), t14_, H', ⟨Nat.le_refl _⟩, ⟨by (with_reducible repeat (first | apply Kd.R_alloc | apply Kd.R_drewN | apply Kd.R_drew)); exact HO_3.out⟩, ⟨by (with_reducible repeat (first | apply Kd.R_alloc | apply Kd.R_drewN | apply Kd.R_drew)); exact HO_4.out⟩, ⟨by (with_reducible repeat (first | apply Kd.R_alloc | apply Kd.R_drewN | apply Kd.R_drew)); exact HO_5.out⟩, ⟨by (with_reducible repeat (first | apply Kd.R_alloc | apply Kd.R_drewN | apply Kd.R_drew)); exact HO_7.out⟩, ⟨by (with_reducible repeat (first | apply Kd.R_alloc | apply Kd.R_drewN | apply Kd.R_drew)); exact HO_309001.out⟩, ⟨by (with_reducible repeat (first | refine blk_drewN ?_ _ | refine blk_drew ?_ | refine blk_alloc ?_ _)); exact BK308.out⟩, ⟨t13_⟩⟩
          case round =>
            clear H'
            try clear c2
            try clear p2
            try clear c3
            try clear c4
            try clear c22
            try clear c23
            try clear c24
            try clear c25
            try clear c26
            try clear c27
            try clear c28
            try clear c29
            try clear c30
            try clear c31
            try clear c32
            try clear c32b0
            try clear c32b1
            try clear c32b2
            try clear c34
            try clear c36
            try clear c47
            try clear hcz20_0
            try clear hcz20_1
            try clear hcz24_0
            try clear hcz24_1
            try clear hcz40_0
            try clear hcz40_1
            try clear hfz20_0
            try clear hfz20_1
            try clear hfz24_0
            try clear hfz24_1
            try clear hfz40_0
            try clear hfz40_1
            try clear p2
            obtain ⟨x15_2, rfl, HA, HK2, HO_3, HO_4, HO_5, HO_7, HO_309001, BK308, HB⟩ := hrel
            cases gk with
            | zero => exact absurd HA.out (by simp [laws_FnMaps.l0])
            | succ k2 =>
              have H := HA.out
              clear HA
              simp only [laws_FnMaps.l0] at H
              by_cases c48 : x15_2 < (t286.length : Int)
              · rw [if_pos c48] at H
                have c48b0 : decide (x15_2 < (t286.length : Int)) = true := decide_eq_true c48
                clear c48
                by_cases c49 : 0 ≤ x15_2
                · rw [if_pos c49] at H
                  have c49b0 : decide (0 ≤ x15_2) = true := decide_eq_true c49
                  clear c49
                  replace H := Option.bind_eq_some_iff.mp H
                  obtain ⟨⟨t319, t320⟩, A500, H⟩ := H
                  replace H : (if t320 = true then (if t319.toList = ((rd_T59 t286 x15_2).f1).toList then (laws_FnMaps.l0 k2 t285 t286 t291 t295 (wrap64 (x15_2 + 1))) else (none)) else (none)) = some r := H
                  have A50 := Aside0.mk A500
                  clear A500
                  by_cases c51 : t320 = true
                  · subst c51
                    have H1 : (if t319.toList = ((rd_T59 t286 x15_2).f1).toList then (laws_FnMaps.l0 k2 t285 t286 t291 t295 (wrap64 (x15_2 + 1))) else (none)) = some r := by rw [if_pos rfl] at H; exact H
                    clear H
                    have H := H1
                    clear H1
                    by_cases c52 : t319.toList = ((rd_T59 t286 x15_2).f1).toList
                    · rw [if_pos c52] at H
                      have c52b0 : (t319.toList == ((rd_T59 t286 x15_2).f1).toList) = true := beq_iff_eq.mpr c52
                      have c52b1 : (t319.toList != ((rd_T59 t286 x15_2).f1).toList) = false := bne_eq_false_iff_eq.mpr c52
                      clear c52
                      have H' := Aside0.mk H
                      clear H
                      have p318 : 0 ≤ (x15_2 : Int) := of_decide_eq_true t5_
                      have q318 : x15_2 < (t286.length : Int) := of_decide_eq_true t5_
                      obtain ⟨ad318, e318, hx318_0, hx318_1⟩ := at_T59 (Kd.R_reads' HO_4.out).2.2 x15_2 p318 q318
                      cases e318
                      replace p318 := eq_true p318
                      replace q318 := eq_true q318
                      obtain ⟨Ao53, co53, eo53⟩ := Kd.R_slice HO_7.out
                      subst eo53
                      go_wp2_with (first | ((with_reducible refine gate_callee (f := 28) rfl ?_); refine goesL_ (some 108) rfl rfl Try.func28 (by kernel_rfl) rfl #[.slice Ao53 t295.length co53, .string ((rd_T59 t286 x15_2).f0)] rfl t4_ ?_; (with_reducible refine (impl_MapGet.calls k2 _ _ t295 ((rd_T59 t286 x15_2).f0) t319 true _ ?side1 ?side2 A50.out).mono ?_); (case side1 => repeat (first | exact (Kd.R_reads' HO_7.out).2.2 | (with_reducible refine Kd.C_alloc ?_ _) | (with_reducible refine Kd.C_drewN ?_ _) | (with_reducible refine Kd.C_drew ?_))); (case side2 => exact (Kd.R_reads' HO_7.out).2.1); rintro e w54 ⟨rfl, hb⟩; refine ⟨_, rfl, ?_⟩; replace HO_3 := Aside0.mk (Kd.R_below t18_ hb); replace HO_4 := Aside0.mk (Kd.R_below (by (with_reducible repeat (first | apply Kd.R_alloc | apply Kd.R_drewN | apply Kd.R_drew)); exact HO_4.out) hb); replace HO_5 := Aside0.mk (Kd.R_below t33_ hb); replace HO_7 := Aside0.mk (Kd.R_below t34_ hb); replace HO_309001 := Aside0.mk (Kd.R_below (by (with_reducible repeat (first | apply Kd.R_alloc | apply Kd.R_drewN | apply Kd.R_drew)); exact HO_309001.out) hb); replace BK308 := bkN BK308 hb; replace HB := Aside0.mk (below_step t13_ hb); (try clear hb); (try clear hb2); (try clear hk); (try clear hi); have p321 : 0 ≤ (x15_2 : Int) := of_decide_eq_true t5_; have q321 : x15_2 < (t286.length : Int) := of_decide_eq_true t5_; obtain ⟨ad321, e321, hx321_0, hx321_1⟩ := at_T59 (Kd.R_reads' HO_4.out).2.2 x15_2 p321 q321; obtain rfl : ad318 = ad321 := (by injection e321); replace p321 := eq_true p321; replace q321 := eq_true q321))
                      go_roundg k2
                      case measure => have := HJ9.out; have := HK2.out; omega
                      case rel => exact ⟨(wrap64 (x15_2 + 1)), t14_, H', ⟨by have := HJ9.out; have := HK2.out; omega⟩, ⟨by (with_reducible repeat (first | apply Kd.R_alloc | apply Kd.R_drewN | apply Kd.R_drew)); exact HO_3.out⟩, ⟨by (with_reducible repeat (first | apply Kd.R_alloc | apply Kd.R_drewN | apply Kd.R_drew)); exact HO_4.out⟩, ⟨by (with_reducible repeat (first | apply Kd.R_alloc | apply Kd.R_drewN | apply Kd.R_drew)); exact HO_5.out⟩, ⟨by (with_reducible repeat (first | apply Kd.R_alloc | apply Kd.R_drewN | apply Kd.R_drew)); exact HO_7.out⟩, ⟨by (with_reducible repeat (first | apply Kd.R_alloc | apply Kd.R_drewN | apply Kd.R_drew)); exact HO_309001.out⟩, ⟨by (with_reducible repeat (first | refine blk_drewN ?_ _ | refine blk_drew ?_ | refine blk_alloc ?_ _)); exact BK308.out⟩, ⟨t13_⟩⟩
                    · rw [if_neg c52] at H
                      exact absurd H (by simp)
                  · replace c51 := Bool.eq_false_iff.mpr c51
                    subst c51
                    have H1 : (none) = some r := by rw [if_neg (show ¬ (false = true) by decide)] at H; exact H
                    clear H
                    have H := H1
                    clear H1
                    exact absurd H (by simp)
                · rw [if_neg c49] at H
                  exact absurd H (by simp)
              · rw [if_neg c48] at H
                have c48b0 : decide (x15_2 < (t286.length : Int)) = false := decide_eq_false c48
                clear c48
                obtain rfl := Option.some.inj H
                go_wp2
                go_ret
                exact ⟨by first | rfl | (simp [errW_none, errW_some] <;> rfl) | (simp [*, errW_none, errW_some] <;> rfl), t13_⟩

/-- THE ONE PURE STATEMENT of laws_FnMaps: yours. -/
def laws_FnMaps.Pure : Prop := ∀ (l0 : List Int), l0.length ≤ maxLen → l0.length * 1 ≤ 140737488351232 → (∀ x ∈ l0, (Lit.int .u8 x).wf = true) → ∃ k, laws_FnMaps.f k l0 = some true
theorem laws_FnMaps.walk (P : laws_FnMaps.Pure) (a0 : Option Addr) (len0 cap0 : Nat) (z0 : List Int) (w : World) (w0 : (a0 = none ∧ len0 = 0 ∧ cap0 = 0 ∧ z0 = []) ∨ ∃ x, a0 = some x ∧ len0 ≤ cap0 ∧ cap0 ≤ maxLen ∧ z0.length = cap0 ∧ (∀ i, i < z0.length → w.cell? (x.add i) = some (.int .u8 (z0.getD i 0))) ∧ ∀ n ∈ z0, (Lit.int .u8 n).wf = true) (y0 : len0 * 1 ≤ 140737488351232) :
    Calls Try.prog 4 #[.slice a0 len0 cap0] w fun e w' => e = .returned (.bool true) ∧ Below w.heap.size w w' := by
  obtain ⟨l0, rfl, hr0, hm0, hw0, hc0⟩ := ReadsInt.ofRowC w0
  obtain ⟨k, h⟩ := P l0 hm0 y0 hw0
  refine (laws_FnMaps.calls k _ _ l0 true w (Kd.C_of_reads (d := (0 : Int)) (h1 := fun _ => rfl) hr0) hc0 h).mono ?_
  rintro e w' ⟨rfl, hd⟩
  exact ⟨rfl, hd⟩

end Go.Proofs.Ytpjhbhjmaggheaa.QFnMaps
