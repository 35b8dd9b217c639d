-- By a program of this session, over the kit's print.
import Derived.Test.YtpjhbhjmaggheaaQFnExactMapBetweenx0
import Derived.Test.YtpjhbhjmaggheaaQFnExactMapBetweenx2
import Derived.Test.YtpjhbhjmaggheaaQFnExactMapBetweenx3
import Derived.Test.YtpjhbhjmaggheaaQFnExactMapBetweenx4
import Derived.Test.YtpjhbhjmaggheaaQFnExactMapBetweenx5
namespace Go.Proofs.Ytpjhbhjmaggheaa.QFnExactMapBetween
open Go.RowKit Go.Proofs.YtpjhbhjmaggheaaW.PrintWords Go.Proofs.YtpjhbhjmaggheaaW.PrintLast Go.Proofs.YtpjhbhjmaggheaaW.PrintMore
attribute [local go_sem] max2_int min2_int max_two min_two max_three min_three max_four min_four   -- for this text's walks alone
set_option linter.unusedVariables false
set_option linter.unusedSimpArgs false

/-! ### laws_FnExactMapBetween: function 10 -/
mutual
def laws_FnExactMapBetween.j0 : Nat → List (S129) → List (S129) → List (S109) → Bool → List (S59) → List (S59) → List (S109) → Bool → Bool → Option (Bool)
  | 0, _, _, _, _, _, _, _, _, _ => none
  | k + 1, x0, x1, x6, x7, x8, x9, x10, x11, x53 => if x53 = true then (none) else ((laws_toPairS.f k x0).bind fun t227 => ((laws_eqPairS.f k x8 t227).bind fun t230 => (if t230 = true then ((laws_toPairS.f k x1).bind fun t231 => ((laws_eqPairS.f k x9 t231).bind fun t234 => (if t234 = true then ((laws_markPairS.f k x8 1).bind fun bt235 => ((laws_markPairS.f k x9 bt235.1).bind fun bt237 => (if bt237.1 < 0 then (laws_FnExactMapBetween.j1 k x0 x1 x6 x7 x10 true) else ((laws_eqChangeS.f k x10 x6).bind fun t239 => (if t239 = true then (laws_FnExactMapBetween.j1 k x0 x1 x6 x7 x10 (x11 != x7)) else (laws_FnExactMapBetween.j1 k x0 x1 x6 x7 x10 true)))))) else (none)))) else (none))))
def laws_FnExactMapBetween.j1 : Nat → List (S129) → List (S129) → List (S109) → Bool → List (S109) → Bool → Option (Bool)
  | 0, _, _, _, _, _, _ => none
  | k + 1, x0, x1, x6, x7, x10, x82 => if x82 = true then (none) else ((laws_markChangeS.f k x10 1).bind fun bt240 => ((laws_heldChangeS.f k bt240.2 1).bind fun t242 => (if t242 < 0 then (none) else (if t242 = bt240.1 then ((laws_toPairS.f k x0).bind fun t243 => ((laws_toPairS.f k x1).bind fun t246 => ((impl_MapBetween.f k t243 t246).bind fun bt249 => ((laws_eqChangeS.f k bt249.1 x6).bind fun t253 => (if t253 = true then (laws_FnExactMapBetween.j2 k bt240.2 bt240.1 (bt249.2 != x7)) else (laws_FnExactMapBetween.j2 k bt240.2 bt240.1 true)))))) else (none)))))
def laws_FnExactMapBetween.j2 : Nat → List (S109) → Int → Bool → Option (Bool)
  | 0, _, _, _ => none
  | k + 1, x10, x13, x110 => if x110 = true then (none) else ((laws_heldChangeS.f k x10 1).bind fun t254 => (if t254 < 0 then (none) else (if t254 = x13 then (some true) else (none))))
end
def laws_FnExactMapBetween.f (k : Nat) (l0 : List (S129)) (l1 : List (S129)) : Option (Bool) := (laws_szPairS.f k l0 1048576).bind fun t204 => (if t204 < 0 then (some true) else ((laws_szPairS.f k l1 t204).bind fun t205 => (if t205 < 0 then (some true) else ((laws_toPairS.f k l0).bind fun t206 => ((laws_toPairS.f k l1).bind fun t209 => ((spec_MapBetween.f k t206 t209).bind fun bt212 => ((laws_toPairS.f k l0).bind fun t216 => ((laws_toPairS.f k l1).bind fun t219 => ((impl_MapBetween.f k t216 t219).bind fun bt222 => ((laws_eqChangeS.f k bt222.1 bt212.1).bind fun t226 => (if t226 = true then (laws_FnExactMapBetween.j0 k l0 l1 bt212.1 bt212.2 t216 t219 bt222.1 bt222.2 (bt222.2 != bt212.2)) else (laws_FnExactMapBetween.j0 k l0 l1 bt212.1 bt212.2 t216 t219 bt222.1 bt222.2 true))))))))))))
theorem laws_FnExactMapBetween.mono_l : ∀ k, (∀ y0 y1 y2 y3 y4 y5 y6 y7 y8, LeO (laws_FnExactMapBetween.j0 k y0 y1 y2 y3 y4 y5 y6 y7 y8) (laws_FnExactMapBetween.j0 (k + 1) y0 y1 y2 y3 y4 y5 y6 y7 y8)) ∧ (∀ y0 y1 y2 y3 y4 y5, LeO (laws_FnExactMapBetween.j1 k y0 y1 y2 y3 y4 y5) (laws_FnExactMapBetween.j1 (k + 1) y0 y1 y2 y3 y4 y5)) ∧ (∀ y0 y1 y2, LeO (laws_FnExactMapBetween.j2 k y0 y1 y2) (laws_FnExactMapBetween.j2 (k + 1) y0 y1 y2))
  | 0 => ⟨fun _ _ _ _ _ _ _ _ _ r h => by simp [laws_FnExactMapBetween.j0] at h, fun _ _ _ _ _ _ r h => by simp [laws_FnExactMapBetween.j1] at h, fun _ _ _ r h => by simp [laws_FnExactMapBetween.j2] at h⟩
  | k + 1 => by
    obtain ⟨ih0, ih1, ih2⟩ := laws_FnExactMapBetween.mono_l k
    refine ⟨?_, ?_, ?_⟩
    · intro y0 y1 y2 y3 y4 y5 y6 y7 y8
      unfold laws_FnExactMapBetween.j0
      repeat' first
      | (with_reducible exact ih0 _ _ _ _ _ _ _ _ _)
      | (with_reducible exact ih1 _ _ _ _ _ _)
      | (with_reducible exact ih2 _ _ _)
      | (with_reducible exact impl_MapBetween.mono _ _ _)
      | (with_reducible exact laws_eqChangeS.mono _ _ _)
      | (with_reducible exact laws_eqPairS.mono _ _ _)
      | (with_reducible exact laws_heldChangeS.mono _ _ _)
      | (with_reducible exact laws_markChangeS.mono _ _ _)
      | (with_reducible exact laws_markPairS.mono _ _ _)
      | (with_reducible exact laws_szPairS.mono _ _ _)
      | (with_reducible exact laws_toPairS.mono _ _)
      | (with_reducible exact spec_MapBetween.mono _ _ _)
      | (with_reducible exact LeO.refl _)
      | (with_reducible exact LeO.none _)
      | (with_reducible refine LeO.ite ?_ ?_)
      | (with_reducible refine LeO.bind ?_ (fun _ => ?_))
      | exact ih0 _ _ _ _ _ _ _ _ _
      | exact ih1 _ _ _ _ _ _
      | exact ih2 _ _ _
      | exact impl_MapBetween.mono _ _ _
      | exact laws_eqChangeS.mono _ _ _
      | exact laws_eqPairS.mono _ _ _
      | exact laws_heldChangeS.mono _ _ _
      | exact laws_markChangeS.mono _ _ _
      | exact laws_markPairS.mono _ _ _
      | exact laws_szPairS.mono _ _ _
      | exact laws_toPairS.mono _ _
      | exact spec_MapBetween.mono _ _ _
      | exact LeO.none _
      | refine LeO.ite ?_ ?_
      | refine LeO.bind ?_ (fun _ => ?_)
    · intro y0 y1 y2 y3 y4 y5
      unfold laws_FnExactMapBetween.j1
      repeat' first
      | (with_reducible exact ih0 _ _ _ _ _ _ _ _ _)
      | (with_reducible exact ih1 _ _ _ _ _ _)
      | (with_reducible exact ih2 _ _ _)
      | (with_reducible exact impl_MapBetween.mono _ _ _)
      | (with_reducible exact laws_eqChangeS.mono _ _ _)
      | (with_reducible exact laws_eqPairS.mono _ _ _)
      | (with_reducible exact laws_heldChangeS.mono _ _ _)
      | (with_reducible exact laws_markChangeS.mono _ _ _)
      | (with_reducible exact laws_markPairS.mono _ _ _)
      | (with_reducible exact laws_szPairS.mono _ _ _)
      | (with_reducible exact laws_toPairS.mono _ _)
      | (with_reducible exact spec_MapBetween.mono _ _ _)
      | (with_reducible exact LeO.refl _)
      | (with_reducible exact LeO.none _)
      | (with_reducible refine LeO.ite ?_ ?_)
      | (with_reducible refine LeO.bind ?_ (fun _ => ?_))
      | exact ih0 _ _ _ _ _ _ _ _ _
      | exact ih1 _ _ _ _ _ _
      | exact ih2 _ _ _
      | exact impl_MapBetween.mono _ _ _
      | exact laws_eqChangeS.mono _ _ _
      | exact laws_eqPairS.mono _ _ _
      | exact laws_heldChangeS.mono _ _ _
      | exact laws_markChangeS.mono _ _ _
      | exact laws_markPairS.mono _ _ _
      | exact laws_szPairS.mono _ _ _
      | exact laws_toPairS.mono _ _
      | exact spec_MapBetween.mono _ _ _
      | exact LeO.none _
      | refine LeO.ite ?_ ?_
      | refine LeO.bind ?_ (fun _ => ?_)
    · intro y0 y1 y2
      unfold laws_FnExactMapBetween.j2
      repeat' first
      | (with_reducible exact ih0 _ _ _ _ _ _ _ _ _)
      | (with_reducible exact ih1 _ _ _ _ _ _)
      | (with_reducible exact ih2 _ _ _)
      | (with_reducible exact impl_MapBetween.mono _ _ _)
      | (with_reducible exact laws_eqChangeS.mono _ _ _)
      | (with_reducible exact laws_eqPairS.mono _ _ _)
      | (with_reducible exact laws_heldChangeS.mono _ _ _)
      | (with_reducible exact laws_markChangeS.mono _ _ _)
      | (with_reducible exact laws_markPairS.mono _ _ _)
      | (with_reducible exact laws_szPairS.mono _ _ _)
      | (with_reducible exact laws_toPairS.mono _ _)
      | (with_reducible exact spec_MapBetween.mono _ _ _)
      | (with_reducible exact LeO.refl _)
      | (with_reducible exact LeO.none _)
      | (with_reducible refine LeO.ite ?_ ?_)
      | (with_reducible refine LeO.bind ?_ (fun _ => ?_))
      | exact ih0 _ _ _ _ _ _ _ _ _
      | exact ih1 _ _ _ _ _ _
      | exact ih2 _ _ _
      | exact impl_MapBetween.mono _ _ _
      | exact laws_eqChangeS.mono _ _ _
      | exact laws_eqPairS.mono _ _ _
      | exact laws_heldChangeS.mono _ _ _
      | exact laws_markChangeS.mono _ _ _
      | exact laws_markPairS.mono _ _ _
      | exact laws_szPairS.mono _ _ _
      | exact laws_toPairS.mono _ _
      | exact spec_MapBetween.mono _ _ _
      | exact LeO.none _
      | refine LeO.ite ?_ ?_
      | refine LeO.bind ?_ (fun _ => ?_)
theorem laws_FnExactMapBetween.mono : ∀ a0 a1 k, LeO (laws_FnExactMapBetween.f k a0 a1) (laws_FnExactMapBetween.f (k + 1) a0 a1) := by
  intro a0 a1 k
  obtain ⟨ih0, ih1, ih2⟩ := laws_FnExactMapBetween.mono_l k
  unfold laws_FnExactMapBetween.f
  repeat' first
      | (with_reducible exact ih0 _ _ _ _ _ _ _ _ _)
      | (with_reducible exact ih1 _ _ _ _ _ _)
      | (with_reducible exact ih2 _ _ _)
      | (with_reducible exact impl_MapBetween.mono _ _ _)
      | (with_reducible exact laws_eqChangeS.mono _ _ _)
      | (with_reducible exact laws_eqPairS.mono _ _ _)
      | (with_reducible exact laws_heldChangeS.mono _ _ _)
      | (with_reducible exact laws_markChangeS.mono _ _ _)
      | (with_reducible exact laws_markPairS.mono _ _ _)
      | (with_reducible exact laws_szPairS.mono _ _ _)
      | (with_reducible exact laws_toPairS.mono _ _)
      | (with_reducible exact spec_MapBetween.mono _ _ _)
      | (with_reducible exact LeO.refl _)
      | (with_reducible exact LeO.none _)
      | (with_reducible refine LeO.ite ?_ ?_)
      | (with_reducible refine LeO.bind ?_ (fun _ => ?_))
      | exact ih0 _ _ _ _ _ _ _ _ _
      | exact ih1 _ _ _ _ _ _
      | exact ih2 _ _ _
      | exact impl_MapBetween.mono _ _ _
      | exact laws_eqChangeS.mono _ _ _
      | exact laws_eqPairS.mono _ _ _
      | exact laws_heldChangeS.mono _ _ _
      | exact laws_markChangeS.mono _ _ _
      | exact laws_markPairS.mono _ _ _
      | exact laws_szPairS.mono _ _ _
      | exact laws_toPairS.mono _ _
      | exact spec_MapBetween.mono _ _ _
      | exact LeO.none _
      | refine LeO.ite ?_ ?_
      | refine LeO.bind ?_ (fun _ => ?_)
set_option maxHeartbeats 8000000 in
set_option maxRecDepth 100000 in
theorem laws_FnExactMapBetween.calls (k : Nat) (A0 : Option Addr) (c0 : Nat) (l0 : List (S129)) (A1 : Option Addr) (c1 : Nat) (l1 : List (S129)) (r : Bool) (w : World) (hr0 : Kd.C k129 w A0 l0.length l0) (hc0 : l0.length ≤ c0) (hr1 : Kd.C k129 w A1 l1.length l1) (hc1 : l1.length ≤ c1) (h : laws_FnExactMapBetween.f k l0 l1 = some r) :
    Calls Try.prog 10 #[.slice A0 l0.length c0, .slice A1 l1.length c1] w fun e w' => e = .returned (.bool r) ∧ Below w.heap.size w w' := by
  have HR0 := Aside0.mk hr0
  have HC0 := Aside0.mk hc0
  clear hr0 hc0
  have HR1 := Aside0.mk hr1
  have HC1 := Aside0.mk hc1
  clear hr1 hc1
  have HB := Aside0.mk (Below.refl w.heap.size w)
  have H : ((laws_szPairS.f k l0 1048576).bind fun t204 => (if t204 < 0 then (some true) else ((laws_szPairS.f k l1 t204).bind fun t205 => (if t205 < 0 then (some true) else ((laws_toPairS.f k l0).bind fun t206 => ((laws_toPairS.f k l1).bind fun t209 => ((spec_MapBetween.f k t206 t209).bind fun bt212 => ((laws_toPairS.f k l0).bind fun t216 => ((laws_toPairS.f k l1).bind fun t219 => ((impl_MapBetween.f k t216 t219).bind fun bt222 => ((laws_eqChangeS.f k bt222.1 bt212.1).bind fun t226 => (if t226 = true then (laws_FnExactMapBetween.j0 k l0 l1 bt212.1 bt212.2 t216 t219 bt222.1 bt222.2 (bt222.2 != bt212.2)) else (laws_FnExactMapBetween.j0 k l0 l1 bt212.1 bt212.2 t216 t219 bt222.1 bt222.2 true))))))))))))) = some r := h
  clear h
  replace H := Option.bind_eq_some_iff.mp H
  obtain ⟨t204, A30, H⟩ := H
  replace H : (if t204 < 0 then (some true) else ((laws_szPairS.f k l1 t204).bind fun t205 => (if t205 < 0 then (some true) else ((laws_toPairS.f k l0).bind fun t206 => ((laws_toPairS.f k l1).bind fun t209 => ((spec_MapBetween.f k t206 t209).bind fun bt212 => ((laws_toPairS.f k l0).bind fun t216 => ((laws_toPairS.f k l1).bind fun t219 => ((impl_MapBetween.f k t216 t219).bind fun bt222 => ((laws_eqChangeS.f k bt222.1 bt212.1).bind fun t226 => (if t226 = true then (laws_FnExactMapBetween.j0 k l0 l1 bt212.1 bt212.2 t216 t219 bt222.1 bt222.2 (bt222.2 != bt212.2)) else (laws_FnExactMapBetween.j0 k l0 l1 bt212.1 bt212.2 t216 t219 bt222.1 bt222.2 true)))))))))))) = some r := H
  have A3 := Aside0.mk A30
  clear A30
  by_cases c4 : t204 < 0
  · rw [if_pos c4] at H
    have c4b0 : decide (t204 < 0) = true := decide_eq_true c4
    clear c4
    obtain rfl := Option.some.inj H
    go_enter Try.func10, Try.ntmps10
    go_wp2_with (first | ((with_reducible refine gate_callee (f := 41) rfl ?_); refine goesL_ (some 19) rfl rfl Try.func41 (by kernel_rfl) rfl #[.slice A0 l0.length c0, .int .i64 1048576] rfl t3_ ?_; (with_reducible refine (laws_szPairS.calls k _ _ l0 1048576 t204 _ ?side1 ?side2 A3.out).mono ?_); (case side1 => repeat (first | exact HR0.out | (with_reducible refine Kd.C_alloc ?_ _) | (with_reducible refine Kd.C_drewN ?_ _) | (with_reducible refine Kd.C_drew ?_))); (case side2 => exact HC0.out); rintro e w5 ⟨rfl, hb⟩; refine ⟨_, rfl, ?_⟩; replace HB := Aside0.mk (below_step t0_ hb); (try clear hb); (try clear hb2); (try clear hk); (try clear hi)))
    go_ret
    exact ⟨by first | rfl | (simp [errW_none, errW_some] <;> rfl) | (simp [*, errW_none, errW_some] <;> rfl), t0_⟩
  · rw [if_neg c4] at H
    have c4b0 : decide (t204 < 0) = false := decide_eq_false c4
    clear c4
    replace H := Option.bind_eq_some_iff.mp H
    obtain ⟨t205, A60, H⟩ := H
    replace H : (if t205 < 0 then (some true) else ((laws_toPairS.f k l0).bind fun t206 => ((laws_toPairS.f k l1).bind fun t209 => ((spec_MapBetween.f k t206 t209).bind fun bt212 => ((laws_toPairS.f k l0).bind fun t216 => ((laws_toPairS.f k l1).bind fun t219 => ((impl_MapBetween.f k t216 t219).bind fun bt222 => ((laws_eqChangeS.f k bt222.1 bt212.1).bind fun t226 => (if t226 = true then (laws_FnExactMapBetween.j0 k l0 l1 bt212.1 bt212.2 t216 t219 bt222.1 bt222.2 (bt222.2 != bt212.2)) else (laws_FnExactMapBetween.j0 k l0 l1 bt212.1 bt212.2 t216 t219 bt222.1 bt222.2 true)))))))))) = some r := H
    have A6 := Aside0.mk A60
    clear A60
    by_cases c7 : t205 < 0
    · rw [if_pos c7] at H
      have c7b0 : decide (t205 < 0) = true := decide_eq_true c7
      clear c7
      obtain rfl := Option.some.inj H
      go_enter Try.func10, Try.ntmps10
      go_wp2_with (first | ((with_reducible refine gate_callee (f := 41) rfl ?_); refine goesL_ (some 19) rfl rfl Try.func41 (by kernel_rfl) rfl #[.slice A0 l0.length c0, .int .i64 1048576] rfl t3_ ?_; (with_reducible refine (laws_szPairS.calls k _ _ l0 1048576 t204 _ ?side1 ?side2 A3.out).mono ?_); (case side1 => repeat (first | exact HR0.out | (with_reducible refine Kd.C_alloc ?_ _) | (with_reducible refine Kd.C_drewN ?_ _) | (with_reducible refine Kd.C_drew ?_))); (case side2 => exact HC0.out); rintro e w8 ⟨rfl, hb⟩; refine ⟨_, rfl, ?_⟩; replace HB := Aside0.mk (below_step t0_ hb); (try clear hb); (try clear hb2); (try clear hk); (try clear hi)) | ((with_reducible refine gate_callee (f := 41) rfl ?_); refine goesL_ (some 24) rfl rfl Try.func41 (by kernel_rfl) rfl #[.slice A1 l1.length c1, .int .i64 t204] rfl t3_ ?_; (with_reducible refine (laws_szPairS.calls k _ _ l1 t204 t205 _ ?side1 ?side2 A6.out).mono ?_); (case side1 => exact cB HR1 HB); (case side2 => exact HC1.out); rintro e w9 ⟨rfl, hb⟩; refine ⟨_, rfl, ?_⟩; replace HB := Aside0.mk (below_step t0_ hb); (try clear hb); (try clear hb2); (try clear hk); (try clear hi)))
      go_ret
      exact ⟨by first | rfl | (simp [errW_none, errW_some] <;> rfl) | (simp [*, errW_none, errW_some] <;> rfl), t0_⟩
    · rw [if_neg c7] at H
      have c7b0 : decide (t205 < 0) = false := decide_eq_false c7
      clear c7
      replace H := Option.bind_eq_some_iff.mp H
      obtain ⟨t206, A100, H⟩ := H
      replace H : ((laws_toPairS.f k l1).bind fun t209 => ((spec_MapBetween.f k t206 t209).bind fun bt212 => ((laws_toPairS.f k l0).bind fun t216 => ((laws_toPairS.f k l1).bind fun t219 => ((impl_MapBetween.f k t216 t219).bind fun bt222 => ((laws_eqChangeS.f k bt222.1 bt212.1).bind fun t226 => (if t226 = true then (laws_FnExactMapBetween.j0 k l0 l1 bt212.1 bt212.2 t216 t219 bt222.1 bt222.2 (bt222.2 != bt212.2)) else (laws_FnExactMapBetween.j0 k l0 l1 bt212.1 bt212.2 t216 t219 bt222.1 bt222.2 true)))))))) = some r := H
      have A10 := Aside0.mk A100
      clear A100
      replace H := Option.bind_eq_some_iff.mp H
      obtain ⟨t209, A110, H⟩ := H
      replace H : ((spec_MapBetween.f k t206 t209).bind fun bt212 => ((laws_toPairS.f k l0).bind fun t216 => ((laws_toPairS.f k l1).bind fun t219 => ((impl_MapBetween.f k t216 t219).bind fun bt222 => ((laws_eqChangeS.f k bt222.1 bt212.1).bind fun t226 => (if t226 = true then (laws_FnExactMapBetween.j0 k l0 l1 bt212.1 bt212.2 t216 t219 bt222.1 bt222.2 (bt222.2 != bt212.2)) else (laws_FnExactMapBetween.j0 k l0 l1 bt212.1 bt212.2 t216 t219 bt222.1 bt222.2 true))))))) = some r := H
      have A11 := Aside0.mk A110
      clear A110
      replace H := Option.bind_eq_some_iff.mp H
      obtain ⟨⟨t212, t213⟩, A120, H⟩ := H
      replace H : ((laws_toPairS.f k l0).bind fun t216 => ((laws_toPairS.f k l1).bind fun t219 => ((impl_MapBetween.f k t216 t219).bind fun bt222 => ((laws_eqChangeS.f k bt222.1 t212).bind fun t226 => (if t226 = true then (laws_FnExactMapBetween.j0 k l0 l1 t212 t213 t216 t219 bt222.1 bt222.2 (bt222.2 != t213)) else (laws_FnExactMapBetween.j0 k l0 l1 t212 t213 t216 t219 bt222.1 bt222.2 true)))))) = some r := H
      have A12 := Aside0.mk A120
      clear A120
      replace H := Option.bind_eq_some_iff.mp H
      obtain ⟨t216, A130, H⟩ := H
      replace H : ((laws_toPairS.f k l1).bind fun t219 => ((impl_MapBetween.f k t216 t219).bind fun bt222 => ((laws_eqChangeS.f k bt222.1 t212).bind fun t226 => (if t226 = true then (laws_FnExactMapBetween.j0 k l0 l1 t212 t213 t216 t219 bt222.1 bt222.2 (bt222.2 != t213)) else (laws_FnExactMapBetween.j0 k l0 l1 t212 t213 t216 t219 bt222.1 bt222.2 true))))) = some r := H
      have A13 := Aside0.mk A130
      clear A130
      replace H := Option.bind_eq_some_iff.mp H
      obtain ⟨t219, A140, H⟩ := H
      replace H : ((impl_MapBetween.f k t216 t219).bind fun bt222 => ((laws_eqChangeS.f k bt222.1 t212).bind fun t226 => (if t226 = true then (laws_FnExactMapBetween.j0 k l0 l1 t212 t213 t216 t219 bt222.1 bt222.2 (bt222.2 != t213)) else (laws_FnExactMapBetween.j0 k l0 l1 t212 t213 t216 t219 bt222.1 bt222.2 true)))) = some r := H
      have A14 := Aside0.mk A140
      clear A140
      replace H := Option.bind_eq_some_iff.mp H
      obtain ⟨⟨t222, t223⟩, A150, H⟩ := H
      replace H : ((laws_eqChangeS.f k t222 t212).bind fun t226 => (if t226 = true then (laws_FnExactMapBetween.j0 k l0 l1 t212 t213 t216 t219 t222 t223 (t223 != t213)) else (laws_FnExactMapBetween.j0 k l0 l1 t212 t213 t216 t219 t222 t223 true))) = some r := H
      have A15 := Aside0.mk A150
      clear A150
      have HC16 := Aside0.mk H
      clear H
      go_enter Try.func10, Try.ntmps10
      go_upto_region 12 with (first | ((with_reducible refine gate_callee (f := 41) rfl ?_); refine goesL_ (some 19) rfl rfl Try.func41 (by kernel_rfl) rfl #[.slice A0 l0.length c0, .int .i64 1048576] rfl t3_ ?_; (with_reducible refine (laws_szPairS.calls k _ _ l0 1048576 t204 _ ?side1 ?side2 A3.out).mono ?_); (case side1 => repeat (first | exact HR0.out | (with_reducible refine Kd.C_alloc ?_ _) | (with_reducible refine Kd.C_drewN ?_ _) | (with_reducible refine Kd.C_drew ?_))); (case side2 => exact HC0.out); rintro e w17 ⟨rfl, hb⟩; refine ⟨_, rfl, ?_⟩; replace HB := Aside0.mk (below_step t0_ hb); (try clear hb); (try clear hb2); (try clear hk); (try clear hi)) | ((with_reducible refine gate_callee (f := 41) rfl ?_); refine goesL_ (some 24) rfl rfl Try.func41 (by kernel_rfl) rfl #[.slice A1 l1.length c1, .int .i64 t204] rfl t3_ ?_; (with_reducible refine (laws_szPairS.calls k _ _ l1 t204 t205 _ ?side1 ?side2 A6.out).mono ?_); (case side1 => exact cB HR1 HB); (case side2 => exact HC1.out); rintro e w18 ⟨rfl, hb⟩; refine ⟨_, rfl, ?_⟩; replace HB := Aside0.mk (below_step t0_ hb); (try clear hb); (try clear hb2); (try clear hk); (try clear hi)) | ((with_reducible refine gate_callee (f := 44) rfl ?_); refine goesL_ (some 29) rfl rfl Try.func44 (by kernel_rfl) rfl #[.slice A0 l0.length c0] rfl t3_ ?_; (with_reducible refine (laws_toPairS.calls k _ _ l0 t206 _ ?side1 ?side2 A10.out).mono ?_); (case side1 => exact cB HR0 HB); (case side2 => exact HC0.out); rintro e w19 ⟨v207, rfl, ho0, hb⟩; refine ⟨_, rfl, ?_⟩; have HO208 := Aside0.mk (Kd.R_lower ho0 (below_size t0_)); replace HB := Aside0.mk (below_step t0_ hb); (try clear hb); (try clear hb2); (try clear hk); (try clear hi); (try clear ho0)) | ((with_reducible refine gate_callee (f := 44) rfl ?_); refine goesL_ (some 31) rfl rfl Try.func44 (by kernel_rfl) rfl #[.slice A1 l1.length c1] rfl t3_ ?_; (with_reducible refine (laws_toPairS.calls k _ _ l1 t209 _ ?side1 ?side2 A11.out).mono ?_); (case side1 => exact cB HR1 HB); (case side2 => exact HC1.out); rintro e w20 ⟨v210, rfl, ho0, hb⟩; refine ⟨_, rfl, ?_⟩; have HO211 := Aside0.mk (Kd.R_lower (Kd.R_new' ho0 (Kd.R_lt t10_)) (below_size t0_)); replace HO208 := Aside0.mk (Kd.R_elder' t10_ (Kd.R_base ho0) hb); replace HB := Aside0.mk (below_step t0_ hb); (try clear hb); (try clear hb2); (try clear hk); (try clear hi); (try clear ho0); obtain ⟨Ao21, co21, eo21⟩ := Kd.R_slice HO208.out; subst eo21; obtain ⟨Ao22, co22, eo22⟩ := Kd.R_slice HO211.out; subst eo22) | ((with_reducible refine gate_callee (f := 51) rfl ?_); refine goesL_ (some 32) rfl rfl Try.func51 (by kernel_rfl) rfl #[.slice Ao21 t206.length co21, .slice Ao22 t209.length co22] rfl t3_ ?_; (with_reducible refine (spec_MapBetween.calls k _ _ t206 _ _ t209 t212 t213 _ ?side1 ?side2 ?side3 ?side4 A12.out).mono ?_); (case side1 => repeat (first | exact (Kd.R_reads' HO208.out).2.2 | (with_reducible refine Kd.C_alloc ?_ _) | (with_reducible refine Kd.C_drewN ?_ _) | (with_reducible refine Kd.C_drew ?_))); (case side2 => exact (Kd.R_reads' HO208.out).2.1); (case side3 => repeat (first | exact (Kd.R_reads' HO211.out).2.2 | (with_reducible refine Kd.C_alloc ?_ _) | (with_reducible refine Kd.C_drewN ?_ _) | (with_reducible refine Kd.C_drew ?_))); (case side4 => exact (Kd.R_reads' HO211.out).2.1); rintro e w23 ⟨v214, rfl, ho0, hb⟩; refine ⟨_, rfl, ?_⟩; replace HO208 := Aside0.mk (Kd.R_below t10_ hb); replace HO211 := Aside0.mk (Kd.R_below t13_ hb); have HO215 := Aside0.mk (Kd.R_lower ho0 (below_size t0_)); replace HB := Aside0.mk (below_step t0_ hb); (try clear hb); (try clear hb2); (try clear hk); (try clear hi); (try clear ho0)) | ((with_reducible refine gate_callee (f := 44) rfl ?_); refine goesL_ (some 36) rfl rfl Try.func44 (by kernel_rfl) rfl #[.slice A0 l0.length c0] rfl t3_ ?_; (with_reducible refine (laws_toPairS.calls k _ _ l0 t216 _ ?side1 ?side2 A13.out).mono ?_); (case side1 => exact cB HR0 HB); (case side2 => exact HC0.out); rintro e w24 ⟨v217, rfl, ho0, hb⟩; refine ⟨_, rfl, ?_⟩; replace HO215 := Aside0.mk (Kd.R_below t18_ hb); have HO218 := Aside0.mk (Kd.R_lower (Kd.R_new' (Kd.R_new' ho0 (Kd.R_lt t10_)) (Kd.R_lt t13_)) (below_size t0_)); replace HO208 := Aside0.mk (Kd.R_elder' t10_ (Kd.R_base ho0) hb); replace HO211 := Aside0.mk (Kd.R_elder' t13_ (Kd.R_base ho0) hb); replace HB := Aside0.mk (below_step t0_ hb); (try clear hb); (try clear hb2); (try clear hk); (try clear hi); (try clear ho0)) | ((with_reducible refine gate_callee (f := 44) rfl ?_); refine goesL_ (some 38) rfl rfl Try.func44 (by kernel_rfl) rfl #[.slice A1 l1.length c1] rfl t3_ ?_; (with_reducible refine (laws_toPairS.calls k _ _ l1 t219 _ ?side1 ?side2 A14.out).mono ?_); (case side1 => exact cB HR1 HB); (case side2 => exact HC1.out); rintro e w25 ⟨v220, rfl, ho0, hb⟩; refine ⟨_, rfl, ?_⟩; replace HO215 := Aside0.mk (Kd.R_below t18_ hb); have HO221 := Aside0.mk (Kd.R_lower (Kd.R_new' (Kd.R_new' (Kd.R_new' ho0 (Kd.R_lt t10_)) (Kd.R_lt t13_)) (Kd.R_lt t20_)) (below_size t0_)); replace HO208 := Aside0.mk (Kd.R_elder' t10_ (Kd.R_base ho0) hb); replace HO211 := Aside0.mk (Kd.R_elder' t13_ (Kd.R_base ho0) hb); replace HO218 := Aside0.mk (Kd.R_elder' t20_ (Kd.R_base ho0) hb); replace HB := Aside0.mk (below_step t0_ hb); (try clear hb); (try clear hb2); (try clear hk); (try clear hi); (try clear ho0); obtain ⟨Ao26, co26, eo26⟩ := Kd.R_slice HO218.out; subst eo26; obtain ⟨Ao27, co27, eo27⟩ := Kd.R_slice HO221.out; subst eo27) | ((with_reducible refine gate_callee (f := 24) rfl ?_); refine goesL_ (some 42) rfl rfl Try.func24 (by kernel_rfl) rfl #[.slice Ao26 t216.length co26, .slice Ao27 t219.length co27] rfl t3_ ?_; (with_reducible refine (impl_MapBetween.calls k _ _ t216 _ _ t219 t222 t223 _ ?side1 ?side2 ?side3 ?side4 A15.out).mono ?_); (case side1 => repeat (first | exact (Kd.R_reads' HO218.out).2.2 | (with_reducible refine Kd.C_alloc ?_ _) | (with_reducible refine Kd.C_drewN ?_ _) | (with_reducible refine Kd.C_drew ?_))); (case side2 => exact (Kd.R_reads' HO218.out).2.1); (case side3 => repeat (first | exact (Kd.R_reads' HO221.out).2.2 | (with_reducible refine Kd.C_alloc ?_ _) | (with_reducible refine Kd.C_drewN ?_ _) | (with_reducible refine Kd.C_drew ?_))); (case side4 => exact (Kd.R_reads' HO221.out).2.1); rintro e w28 ⟨v224, rfl, ho0, hb⟩; refine ⟨_, rfl, ?_⟩; replace HO208 := Aside0.mk (Kd.R_below t10_ hb); replace HO211 := Aside0.mk (Kd.R_below t13_ hb); replace HO218 := Aside0.mk (Kd.R_below t20_ hb); replace HO221 := Aside0.mk (Kd.R_below (by (with_reducible repeat (first | apply Kd.R_alloc | apply Kd.R_drewN | apply Kd.R_drew)); exact HO221.out) hb); have HO225 := Aside0.mk (Kd.R_lower (Kd.R_new' ho0 (Kd.R_lt t18_)) (below_size t0_)); replace HO215 := Aside0.mk (Kd.R_elder' t18_ (Kd.R_base ho0) hb); replace HB := Aside0.mk (below_step t0_ hb); (try clear hb); (try clear hb2); (try clear hk); (try clear hi); (try clear ho0)))
      (try simp only [Act.put, List.setIfInBounds_toArray, List.set_cons_zero, List.set_cons_succ])
      go_cut [53] (fun v53 wc => ∃ (kq : Nat) (x53_15 : Bool), v53 = .bool x53_15 ∧ Aside0 (laws_FnExactMapBetween.j0 kq l0 l1 t212 t213 t216 t219 t222 t223 x53_15 = some r) ∧ Aside0 (kq ≤ k) ∧ Aside0 (Kd.R k109 109 wc w.heap.size (fun k_ => some k_ ≠ (v224 : Value).ownBlock) v214 t212) ∧ Aside0 (Kd.R k59 59 wc w.heap.size (fun k_ => some k_ ≠ ((.slice Ao27 t219.length co27) : Value).ownBlock) (.slice Ao26 t216.length co26) t216) ∧ Aside0 (Kd.R k59 59 wc w.heap.size (fun k_ => some k_ ≠ ((.slice Ao26 t216.length co26) : Value).ownBlock) (.slice Ao27 t219.length co27) t219) ∧ Aside0 (Kd.R k109 109 wc w.heap.size (fun k_ => some k_ ≠ (v214 : Value).ownBlock) v224 t222) ∧ Aside0 (Below w.heap.size w wc))
      case first =>
        have H := HC16.out
        clear HC16
        replace H := Option.bind_eq_some_iff.mp H
        obtain ⟨t226, A290, H⟩ := H
        replace H : (if t226 = true then (laws_FnExactMapBetween.j0 k l0 l1 t212 t213 t216 t219 t222 t223 (t223 != t213)) else (laws_FnExactMapBetween.j0 k l0 l1 t212 t213 t216 t219 t222 t223 true)) = some r := H
        have A29 := Aside0.mk A290
        clear A290
        by_cases c30 : t226 = true
        · subst c30
          have H1 : (laws_FnExactMapBetween.j0 k l0 l1 t212 t213 t216 t219 t222 t223 (t223 != t213)) = some r := by rw [if_pos rfl] at H; exact H
          clear H
          have H := H1
          clear H1
          have H' := Aside0.mk H
          clear H
          obtain ⟨Ao31, co31, eo31⟩ := Kd.R_slice HO225.out
          subst eo31
          obtain ⟨Ao32, co32, eo32⟩ := Kd.R_slice HO215.out
          subst eo32
          go_wp2_with (first | ((with_reducible refine gate_callee (f := 52) rfl ?_); refine goesL_ (some 47) rfl rfl Try.func52 (by kernel_rfl) rfl #[.slice Ao31 t222.length co31, .slice Ao32 t212.length co32] rfl t3_ ?_; (with_reducible refine (laws_eqChangeS.calls k _ _ t222 _ _ t212 true _ ?side1 ?side2 ?side3 ?side4 A29.out).mono ?_); (case side1 => repeat (first | exact (Kd.R_reads' HO225.out).2.2 | (with_reducible refine Kd.C_alloc ?_ _) | (with_reducible refine Kd.C_drewN ?_ _) | (with_reducible refine Kd.C_drew ?_))); (case side2 => exact (Kd.R_reads' HO225.out).2.1); (case side3 => repeat (first | exact (Kd.R_reads' HO215.out).2.2 | (with_reducible refine Kd.C_alloc ?_ _) | (with_reducible refine Kd.C_drewN ?_ _) | (with_reducible refine Kd.C_drew ?_))); (case side4 => exact (Kd.R_reads' HO215.out).2.1); rintro e w33 ⟨rfl, hb⟩; refine ⟨_, rfl, ?_⟩; replace HO208 := Aside0.mk (Kd.R_below t10_ hb); replace HO211 := Aside0.mk (Kd.R_below t13_ hb); replace HO215 := Aside0.mk (Kd.R_below t18_ hb); replace HO218 := Aside0.mk (Kd.R_below t20_ hb); replace HO221 := Aside0.mk (Kd.R_below (by (with_reducible repeat (first | apply Kd.R_alloc | apply Kd.R_drewN | apply Kd.R_drew)); exact HO221.out) hb); replace HO225 := Aside0.mk (Kd.R_below (by (with_reducible repeat (first | apply Kd.R_alloc | apply Kd.R_drewN | apply Kd.R_drew)); exact HO225.out) hb); replace HB := Aside0.mk (below_step t0_ hb); (try clear hb); (try clear hb2); (try clear hk); (try clear hi)))
          go_meet
          case rel => exact ⟨_, ((t223 != t213)), t7_, H', ⟨by first | omega | exact Nat.le_refl _⟩, ⟨by (with_reducible repeat (first | apply Kd.R_alloc | apply Kd.R_drewN | apply Kd.R_drew)); exact Kd.R_mono HO215.out (fun _ hk => hk.2)⟩, ⟨by (with_reducible repeat (first | apply Kd.R_alloc | apply Kd.R_drewN | apply Kd.R_drew)); exact Kd.R_mono HO218.out (fun _ hk => hk.2)⟩, ⟨by (with_reducible repeat (first | apply Kd.R_alloc | apply Kd.R_drewN | apply Kd.R_drew)); exact Kd.R_mono HO221.out (fun _ hk => hk.2)⟩, ⟨by (with_reducible repeat (first | apply Kd.R_alloc | apply Kd.R_drewN | apply Kd.R_drew)); exact Kd.R_mono HO225.out (fun _ hk => hk.2)⟩, ⟨t0_⟩⟩
        · replace c30 := Bool.eq_false_iff.mpr c30
          subst c30
          have H1 : (laws_FnExactMapBetween.j0 k l0 l1 t212 t213 t216 t219 t222 t223 true) = some r := by rw [if_neg (show ¬ (false = true) by decide)] at H; exact H
          clear H
          have H := H1
          clear H1
          have H' := Aside0.mk H
          clear H
          obtain ⟨Ao34, co34, eo34⟩ := Kd.R_slice HO225.out
          subst eo34
          obtain ⟨Ao35, co35, eo35⟩ := Kd.R_slice HO215.out
          subst eo35
          go_wp2_with (first | ((with_reducible refine gate_callee (f := 52) rfl ?_); refine goesL_ (some 47) rfl rfl Try.func52 (by kernel_rfl) rfl #[.slice Ao34 t222.length co34, .slice Ao35 t212.length co35] rfl t3_ ?_; (with_reducible refine (laws_eqChangeS.calls k _ _ t222 _ _ t212 false _ ?side1 ?side2 ?side3 ?side4 A29.out).mono ?_); (case side1 => repeat (first | exact (Kd.R_reads' HO225.out).2.2 | (with_reducible refine Kd.C_alloc ?_ _) | (with_reducible refine Kd.C_drewN ?_ _) | (with_reducible refine Kd.C_drew ?_))); (case side2 => exact (Kd.R_reads' HO225.out).2.1); (case side3 => repeat (first | exact (Kd.R_reads' HO215.out).2.2 | (with_reducible refine Kd.C_alloc ?_ _) | (with_reducible refine Kd.C_drewN ?_ _) | (with_reducible refine Kd.C_drew ?_))); (case side4 => exact (Kd.R_reads' HO215.out).2.1); rintro e w36 ⟨rfl, hb⟩; refine ⟨_, rfl, ?_⟩; replace HO208 := Aside0.mk (Kd.R_below t10_ hb); replace HO211 := Aside0.mk (Kd.R_below t13_ hb); replace HO215 := Aside0.mk (Kd.R_below t18_ hb); replace HO218 := Aside0.mk (Kd.R_below t20_ hb); replace HO221 := Aside0.mk (Kd.R_below (by (with_reducible repeat (first | apply Kd.R_alloc | apply Kd.R_drewN | apply Kd.R_drew)); exact HO221.out) hb); replace HO225 := Aside0.mk (Kd.R_below (by (with_reducible repeat (first | apply Kd.R_alloc | apply Kd.R_drewN | apply Kd.R_drew)); exact HO225.out) hb); replace HB := Aside0.mk (below_step t0_ hb); (try clear hb); (try clear hb2); (try clear hk); (try clear hi)))
          go_meet
          case rel => exact ⟨_, (true), t7_, H', ⟨by first | omega | exact Nat.le_refl _⟩, ⟨by (with_reducible repeat (first | apply Kd.R_alloc | apply Kd.R_drewN | apply Kd.R_drew)); exact Kd.R_mono HO215.out (fun _ hk => hk.2)⟩, ⟨by (with_reducible repeat (first | apply Kd.R_alloc | apply Kd.R_drewN | apply Kd.R_drew)); exact Kd.R_mono HO218.out (fun _ hk => hk.2)⟩, ⟨by (with_reducible repeat (first | apply Kd.R_alloc | apply Kd.R_drewN | apply Kd.R_drew)); exact Kd.R_mono HO221.out (fun _ hk => hk.2)⟩, ⟨by (with_reducible repeat (first | apply Kd.R_alloc | apply Kd.R_drewN | apply Kd.R_drew)); exact Kd.R_mono HO225.out (fun _ hk => hk.2)⟩, ⟨t0_⟩⟩
      case rest =>
        clear HC16
        try clear c1
        try clear c2
        try clear p2
        try clear c3
        try clear c4
        try clear c4b0
        try clear c5
        try clear c7
        try clear c7b0
        try clear c10
        try clear c24
        try clear c30
        obtain ⟨kq, x53_15, rfl, HA, HJ15, HO_6, HO_8, HO_9, HO_10, HB⟩ := hcut
        cases kq with
        | zero => exact absurd HA.out (by simp [laws_FnExactMapBetween.j0])
        | succ kj15 =>
          have H := HA.out
          clear HA
          simp only [laws_FnExactMapBetween.j0] at H
          by_cases c37 : x53_15 = true
          · subst c37
            have H1 : (none) = some r := by rw [if_pos rfl] at H; exact H
            clear H
            have H := H1
            clear H1
            exact absurd H (by simp)
          · replace c37 := Bool.eq_false_iff.mpr c37
            subst c37
            have H1 : ((laws_toPairS.f kj15 l0).bind fun t227 => ((laws_eqPairS.f kj15 t216 t227).bind fun t230 => (if t230 = true then ((laws_toPairS.f kj15 l1).bind fun t231 => ((laws_eqPairS.f kj15 t219 t231).bind fun t234 => (if t234 = true then ((laws_markPairS.f kj15 t216 1).bind fun bt235 => ((laws_markPairS.f kj15 t219 bt235.1).bind fun bt237 => (if bt237.1 < 0 then (laws_FnExactMapBetween.j1 kj15 l0 l1 t212 t213 t222 true) else ((laws_eqChangeS.f kj15 t222 t212).bind fun t239 => (if t239 = true then (laws_FnExactMapBetween.j1 kj15 l0 l1 t212 t213 t222 (t223 != t213)) else (laws_FnExactMapBetween.j1 kj15 l0 l1 t212 t213 t222 true)))))) else (none)))) else (none)))) = some r := by rw [if_neg (show ¬ (false = true) by decide)] at H; exact H
            clear H
            have H := H1
            clear H1
            replace H := Option.bind_eq_some_iff.mp H
            obtain ⟨t227, A380, H⟩ := H
            replace H : ((laws_eqPairS.f kj15 t216 t227).bind fun t230 => (if t230 = true then ((laws_toPairS.f kj15 l1).bind fun t231 => ((laws_eqPairS.f kj15 t219 t231).bind fun t234 => (if t234 = true then ((laws_markPairS.f kj15 t216 1).bind fun bt235 => ((laws_markPairS.f kj15 t219 bt235.1).bind fun bt237 => (if bt237.1 < 0 then (laws_FnExactMapBetween.j1 kj15 l0 l1 t212 t213 t222 true) else ((laws_eqChangeS.f kj15 t222 t212).bind fun t239 => (if t239 = true then (laws_FnExactMapBetween.j1 kj15 l0 l1 t212 t213 t222 (t223 != t213)) else (laws_FnExactMapBetween.j1 kj15 l0 l1 t212 t213 t222 true)))))) else (none)))) else (none))) = some r := H
            have A38 := Aside0.mk A380
            clear A380
            replace H := Option.bind_eq_some_iff.mp H
            obtain ⟨t230, A390, H⟩ := H
            replace H : (if t230 = true then ((laws_toPairS.f kj15 l1).bind fun t231 => ((laws_eqPairS.f kj15 t219 t231).bind fun t234 => (if t234 = true then ((laws_markPairS.f kj15 t216 1).bind fun bt235 => ((laws_markPairS.f kj15 t219 bt235.1).bind fun bt237 => (if bt237.1 < 0 then (laws_FnExactMapBetween.j1 kj15 l0 l1 t212 t213 t222 true) else ((laws_eqChangeS.f kj15 t222 t212).bind fun t239 => (if t239 = true then (laws_FnExactMapBetween.j1 kj15 l0 l1 t212 t213 t222 (t223 != t213)) else (laws_FnExactMapBetween.j1 kj15 l0 l1 t212 t213 t222 true)))))) else (none)))) else (none)) = some r := H
            have A39 := Aside0.mk A390
            clear A390
            by_cases c40 : t230 = true
            · subst c40
              have H1 : ((laws_toPairS.f kj15 l1).bind fun t231 => ((laws_eqPairS.f kj15 t219 t231).bind fun t234 => (if t234 = true then ((laws_markPairS.f kj15 t216 1).bind fun bt235 => ((laws_markPairS.f kj15 t219 bt235.1).bind fun bt237 => (if bt237.1 < 0 then (laws_FnExactMapBetween.j1 kj15 l0 l1 t212 t213 t222 true) else ((laws_eqChangeS.f kj15 t222 t212).bind fun t239 => (if t239 = true then (laws_FnExactMapBetween.j1 kj15 l0 l1 t212 t213 t222 (t223 != t213)) else (laws_FnExactMapBetween.j1 kj15 l0 l1 t212 t213 t222 true)))))) else (none)))) = some r := by rw [if_pos rfl] at H; exact H
              clear H
              have H := H1
              clear H1
              replace H := Option.bind_eq_some_iff.mp H
              obtain ⟨t231, A410, H⟩ := H
              replace H : ((laws_eqPairS.f kj15 t219 t231).bind fun t234 => (if t234 = true then ((laws_markPairS.f kj15 t216 1).bind fun bt235 => ((laws_markPairS.f kj15 t219 bt235.1).bind fun bt237 => (if bt237.1 < 0 then (laws_FnExactMapBetween.j1 kj15 l0 l1 t212 t213 t222 true) else ((laws_eqChangeS.f kj15 t222 t212).bind fun t239 => (if t239 = true then (laws_FnExactMapBetween.j1 kj15 l0 l1 t212 t213 t222 (t223 != t213)) else (laws_FnExactMapBetween.j1 kj15 l0 l1 t212 t213 t222 true)))))) else (none))) = some r := H
              have A41 := Aside0.mk A410
              clear A410
              replace H := Option.bind_eq_some_iff.mp H
              obtain ⟨t234, A420, H⟩ := H
              replace H : (if t234 = true then ((laws_markPairS.f kj15 t216 1).bind fun bt235 => ((laws_markPairS.f kj15 t219 bt235.1).bind fun bt237 => (if bt237.1 < 0 then (laws_FnExactMapBetween.j1 kj15 l0 l1 t212 t213 t222 true) else ((laws_eqChangeS.f kj15 t222 t212).bind fun t239 => (if t239 = true then (laws_FnExactMapBetween.j1 kj15 l0 l1 t212 t213 t222 (t223 != t213)) else (laws_FnExactMapBetween.j1 kj15 l0 l1 t212 t213 t222 true)))))) else (none)) = some r := H
              have A42 := Aside0.mk A420
              clear A420
              by_cases c43 : t234 = true
              · subst c43
                have H1 : ((laws_markPairS.f kj15 t216 1).bind fun bt235 => ((laws_markPairS.f kj15 t219 bt235.1).bind fun bt237 => (if bt237.1 < 0 then (laws_FnExactMapBetween.j1 kj15 l0 l1 t212 t213 t222 true) else ((laws_eqChangeS.f kj15 t222 t212).bind fun t239 => (if t239 = true then (laws_FnExactMapBetween.j1 kj15 l0 l1 t212 t213 t222 (t223 != t213)) else (laws_FnExactMapBetween.j1 kj15 l0 l1 t212 t213 t222 true)))))) = some r := by rw [if_pos rfl] at H; exact H
                clear H
                have H := H1
                clear H1
                replace H := Option.bind_eq_some_iff.mp H
                obtain ⟨⟨t235, t236⟩, A440, H⟩ := H
                replace H : ((laws_markPairS.f kj15 t219 t235).bind fun bt237 => (if bt237.1 < 0 then (laws_FnExactMapBetween.j1 kj15 l0 l1 t212 t213 t222 true) else ((laws_eqChangeS.f kj15 t222 t212).bind fun t239 => (if t239 = true then (laws_FnExactMapBetween.j1 kj15 l0 l1 t212 t213 t222 (t223 != t213)) else (laws_FnExactMapBetween.j1 kj15 l0 l1 t212 t213 t222 true))))) = some r := H
                have A44 := Aside0.mk A440
                clear A440
                replace H := Option.bind_eq_some_iff.mp H
                obtain ⟨⟨t237, t238⟩, A450, H⟩ := H
                replace H : (if t237 < 0 then (laws_FnExactMapBetween.j1 kj15 l0 l1 t212 t213 t222 true) else ((laws_eqChangeS.f kj15 t222 t212).bind fun t239 => (if t239 = true then (laws_FnExactMapBetween.j1 kj15 l0 l1 t212 t213 t222 (t223 != t213)) else (laws_FnExactMapBetween.j1 kj15 l0 l1 t212 t213 t222 true)))) = some r := H
                have A45 := Aside0.mk A450
                clear A450
                have HC46 := Aside0.mk H
                clear H
                go_upto_region 21 with (first | ((with_reducible refine gate_callee (f := 44) rfl ?_); refine goesL_ (some 56) rfl rfl Try.func44 (by kernel_rfl) rfl #[.slice A0 l0.length c0] rfl t3_ ?_; (with_reducible refine (laws_toPairS.calls kj15 _ _ l0 t227 _ ?side1 ?side2 A38.out).mono ?_); (case side1 => exact cB HR0 HB); (case side2 => exact HC0.out); rintro e w47 ⟨v228, rfl, ho0, hb⟩; refine ⟨_, rfl, ?_⟩; replace HO_6 := Aside0.mk (Kd.R_below t5_ hb); replace HO_10 := Aside0.mk (Kd.R_below t9_ hb); have HO229 := Aside0.mk (Kd.R_lower (Kd.R_new' (Kd.R_new' ho0 (Kd.R_lt t14_)) (Kd.R_lt t15_)) (below_size t0_)); replace HO_8 := Aside0.mk (Kd.R_elder' t14_ (Kd.R_base ho0) hb); replace HO_9 := Aside0.mk (Kd.R_elder' t15_ (Kd.R_base ho0) hb); replace HB := Aside0.mk (below_step t0_ hb); (try clear hb); (try clear hb2); (try clear hk); (try clear hi); (try clear ho0); obtain ⟨Ao48, co48, eo48⟩ := Kd.R_slice HO229.out; subst eo48) | ((with_reducible refine gate_callee (f := 46) rfl ?_); refine goesL_ (some 57) rfl rfl Try.func46 (by kernel_rfl) rfl #[.slice Ao26 t216.length co26, .slice Ao48 t227.length co48] rfl t3_ ?_; (with_reducible refine (laws_eqPairS.calls kj15 _ _ t216 _ _ t227 true _ ?side1 ?side2 ?side3 ?side4 A39.out).mono ?_); (case side1 => repeat (first | exact (Kd.R_reads' HO_8.out).2.2 | (with_reducible refine Kd.C_alloc ?_ _) | (with_reducible refine Kd.C_drewN ?_ _) | (with_reducible refine Kd.C_drew ?_))); (case side2 => exact (Kd.R_reads' HO_8.out).2.1); (case side3 => repeat (first | exact (Kd.R_reads' HO229.out).2.2 | (with_reducible refine Kd.C_alloc ?_ _) | (with_reducible refine Kd.C_drewN ?_ _) | (with_reducible refine Kd.C_drew ?_))); (case side4 => exact (Kd.R_reads' HO229.out).2.1); rintro e w49 ⟨rfl, hb⟩; refine ⟨_, rfl, ?_⟩; replace HO_6 := Aside0.mk (Kd.R_below t5_ hb); replace HO_8 := Aside0.mk (Kd.R_below t14_ hb); replace HO_9 := Aside0.mk (Kd.R_below t15_ hb); replace HO_10 := Aside0.mk (Kd.R_below t9_ hb); replace HO229 := Aside0.mk (Kd.R_below t19_ hb); replace HB := Aside0.mk (below_step t0_ hb); (try clear hb); (try clear hb2); (try clear hk); (try clear hi)) | ((with_reducible refine gate_callee (f := 44) rfl ?_); refine goesL_ (some 61) rfl rfl Try.func44 (by kernel_rfl) rfl #[.slice A1 l1.length c1] rfl t3_ ?_; (with_reducible refine (laws_toPairS.calls kj15 _ _ l1 t231 _ ?side1 ?side2 A41.out).mono ?_); (case side1 => exact cB HR1 HB); (case side2 => exact HC1.out); rintro e w50 ⟨v232, rfl, ho0, hb⟩; refine ⟨_, rfl, ?_⟩; replace HO_6 := Aside0.mk (Kd.R_below t5_ hb); replace HO_10 := Aside0.mk (Kd.R_below t9_ hb); have HO233 := Aside0.mk (Kd.R_lower (Kd.R_new' (Kd.R_new' (Kd.R_new' ho0 (Kd.R_lt t14_)) (Kd.R_lt t15_)) (Kd.R_lt t19_)) (below_size t0_)); replace HO_8 := Aside0.mk (Kd.R_elder' t14_ (Kd.R_base ho0) hb); replace HO_9 := Aside0.mk (Kd.R_elder' t15_ (Kd.R_base ho0) hb); replace HO229 := Aside0.mk (Kd.R_elder' t19_ (Kd.R_base ho0) hb); replace HB := Aside0.mk (below_step t0_ hb); (try clear hb); (try clear hb2); (try clear hk); (try clear hi); (try clear ho0); obtain ⟨Ao51, co51, eo51⟩ := Kd.R_slice HO233.out; subst eo51) | ((with_reducible refine gate_callee (f := 46) rfl ?_); refine goesL_ (some 62) rfl rfl Try.func46 (by kernel_rfl) rfl #[.slice Ao27 t219.length co27, .slice Ao51 t231.length co51] rfl t3_ ?_; (with_reducible refine (laws_eqPairS.calls kj15 _ _ t219 _ _ t231 true _ ?side1 ?side2 ?side3 ?side4 A42.out).mono ?_); (case side1 => repeat (first | exact (Kd.R_reads' HO_9.out).2.2 | (with_reducible refine Kd.C_alloc ?_ _) | (with_reducible refine Kd.C_drewN ?_ _) | (with_reducible refine Kd.C_drew ?_))); (case side2 => exact (Kd.R_reads' HO_9.out).2.1); (case side3 => repeat (first | exact (Kd.R_reads' HO233.out).2.2 | (with_reducible refine Kd.C_alloc ?_ _) | (with_reducible refine Kd.C_drewN ?_ _) | (with_reducible refine Kd.C_drew ?_))); (case side4 => exact (Kd.R_reads' HO233.out).2.1); rintro e w52 ⟨rfl, hb⟩; refine ⟨_, rfl, ?_⟩; replace HO_6 := Aside0.mk (Kd.R_below t5_ hb); replace HO_8 := Aside0.mk (Kd.R_below t14_ hb); replace HO_9 := Aside0.mk (Kd.R_below t15_ hb); replace HO_10 := Aside0.mk (Kd.R_below t9_ hb); replace HO229 := Aside0.mk (Kd.R_below t19_ hb); replace HO233 := Aside0.mk (Kd.R_below (by (with_reducible repeat (first | apply Kd.R_alloc | apply Kd.R_drewN | apply Kd.R_drew)); exact HO233.out) hb); replace HB := Aside0.mk (below_step t0_ hb); (try clear hb); (try clear hb2); (try clear hk); (try clear hi)) | ((with_reducible refine gate_callee (f := 48) rfl ?_); refine goesL_ (some 66) rfl rfl Try.func48 (by kernel_rfl) rfl #[.slice Ao26 t216.length co26, .int .i64 1] rfl t3_ ?_; (with_reducible refine (laws_markPairS.calls kj15 (fun k_ => some k_ = (.slice Ao26 t216.length co26 : Value).ownBlock) (.slice Ao26 t216.length co26) t216 1 t235 t236 w _ ?side1 ?side2 A44.out).mono ?_); (case side1 => repeat (first | (with_reducible first | exact HB.out | apply below_alloc | apply pw_below_drewN | apply below_drew1) | exact HB.out)); (case side2 => exact Kd.R_tight rfl HO_8.out); rintro e w53 ⟨rfl, hy0, hb, hkp⟩; refine ⟨_, rfl, ?_⟩; replace HO_6 := Aside0.mk (Kd.R_mono (ok' := fun k_ => some k_ ≠ (v224 : Value).ownBlock) (Kd.R_keptB ((Kd.R_apart' HO_6.out (Kd.R_typed HO_8.out) (by decide))) hkp (fun k_ hk_ hs_ => (hk_.2) hs_)) (fun k_ hk_ => hk_.1.1)); replace HO_9 := Aside0.mk (Kd.R_mono (ok' := fun k_ => some k_ ≠ (.slice Ao26 t216.length co26 : Value).ownBlock ∧ some k_ ≠ (.slice Ao48 t227.length co48 : Value).ownBlock ∧ some k_ ≠ (.slice Ao51 t231.length co51 : Value).ownBlock) (Kd.R_keptB (HO_9.out) hkp (fun k_ hk_ hs_ => (hk_.1.1) hs_)) (fun k_ hk_ => ⟨hk_.1.1.1, hk_.1.1.2, hk_.1.2⟩)); replace HO_10 := Aside0.mk (Kd.R_mono (ok' := fun k_ => some k_ ≠ (v214 : Value).ownBlock) (Kd.R_keptB ((Kd.R_apart' HO_10.out (Kd.R_typed HO_8.out) (by decide))) hkp (fun k_ hk_ hs_ => (hk_.2) hs_)) (fun k_ hk_ => hk_.1.1)); replace HO_8 := Aside0.mk (Kd.R_reok rfl hy0 (fun k_ e_ => HO_8.out.1 k_ e_)); replace HO229 := Aside0.mk (Kd.R_mono (ok' := fun k_ => some k_ ≠ (.slice Ao26 t216.length co26 : Value).ownBlock ∧ some k_ ≠ (.slice Ao27 t219.length co27 : Value).ownBlock ∧ some k_ ≠ (.slice Ao51 t231.length co51 : Value).ownBlock) (Kd.R_keptB (HO229.out) hkp (fun k_ hk_ hs_ => (hk_.1.1.2) hs_)) (fun k_ hk_ => ⟨hk_.1.1.1.2, hk_.1.1.2, hk_.1.2⟩)); replace HO233 := Aside0.mk (Kd.R_mono (ok' := fun k_ => some k_ ≠ (.slice Ao26 t216.length co26 : Value).ownBlock ∧ some k_ ≠ (.slice Ao27 t219.length co27 : Value).ownBlock ∧ some k_ ≠ (.slice Ao48 t227.length co48 : Value).ownBlock) (Kd.R_keptB (HO233.out) hkp (fun k_ hk_ hs_ => (hk_.1.1.2) hs_)) (fun k_ hk_ => ⟨hk_.1.1.1.2, hk_.1.1.2, hk_.1.2⟩)); replace HB := Aside0.mk (hb); (try clear hb); (try clear hkp); (try clear hy0)) | ((with_reducible refine gate_callee (f := 48) rfl ?_); refine goesL_ (some 69) rfl rfl Try.func48 (by kernel_rfl) rfl #[.slice Ao27 t219.length co27, .int .i64 t235] rfl t3_ ?_; (with_reducible refine (laws_markPairS.calls kj15 (fun k_ => some k_ = (.slice Ao27 t219.length co27 : Value).ownBlock) (.slice Ao27 t219.length co27) t219 t235 t237 t238 w _ ?side1 ?side2 A45.out).mono ?_); (case side1 => repeat (first | (with_reducible first | exact HB.out | apply below_alloc | apply pw_below_drewN | apply below_drew1) | exact HB.out)); (case side2 => exact Kd.R_tight rfl HO_9.out); rintro e w54 ⟨rfl, hy0, hb, hkp⟩; refine ⟨_, rfl, ?_⟩; replace HO_6 := Aside0.mk (Kd.R_mono (ok' := fun k_ => some k_ ≠ (v224 : Value).ownBlock) (Kd.R_keptB ((Kd.R_apart' HO_6.out (Kd.R_typed HO_9.out) (by decide))) hkp (fun k_ hk_ hs_ => (hk_.2) hs_)) (fun k_ hk_ => hk_.1.1)); replace HO_8 := Aside0.mk (Kd.R_mono (ok' := fun k_ => some k_ ≠ (.slice Ao27 t219.length co27 : Value).ownBlock ∧ some k_ ≠ (.slice Ao48 t227.length co48 : Value).ownBlock ∧ some k_ ≠ (.slice Ao51 t231.length co51 : Value).ownBlock) (Kd.R_keptB (HO_8.out) hkp (fun k_ hk_ hs_ => (hk_.1.1) hs_)) (fun k_ hk_ => ⟨hk_.1.1.1, hk_.1.1.2, hk_.1.2⟩)); replace HO_10 := Aside0.mk (Kd.R_mono (ok' := fun k_ => some k_ ≠ (v214 : Value).ownBlock) (Kd.R_keptB ((Kd.R_apart' HO_10.out (Kd.R_typed HO_9.out) (by decide))) hkp (fun k_ hk_ hs_ => (hk_.2) hs_)) (fun k_ hk_ => hk_.1.1)); replace HO_9 := Aside0.mk (Kd.R_reok rfl hy0 (fun k_ e_ => HO_9.out.1 k_ e_)); replace HO229 := Aside0.mk (Kd.R_mono (ok' := fun k_ => some k_ ≠ (.slice Ao26 t216.length co26 : Value).ownBlock ∧ some k_ ≠ (.slice Ao27 t219.length co27 : Value).ownBlock ∧ some k_ ≠ (.slice Ao51 t231.length co51 : Value).ownBlock) (Kd.R_keptB (HO229.out) hkp (fun k_ hk_ hs_ => (hk_.2.1) hs_)) (fun k_ hk_ => ⟨hk_.1.1, hk_.1.2.1, hk_.1.2.2⟩)); replace HO233 := Aside0.mk (Kd.R_mono (ok' := fun k_ => some k_ ≠ (.slice Ao26 t216.length co26 : Value).ownBlock ∧ some k_ ≠ (.slice Ao27 t219.length co27 : Value).ownBlock ∧ some k_ ≠ (.slice Ao48 t227.length co48 : Value).ownBlock) (Kd.R_keptB (HO233.out) hkp (fun k_ hk_ hs_ => (hk_.2.1) hs_)) (fun k_ hk_ => ⟨hk_.1.1, hk_.1.2.1, hk_.1.2.2⟩)); replace HB := Aside0.mk (hb); (try clear hb); (try clear hkp); (try clear hy0)))
                (try simp only [Act.put, List.setIfInBounds_toArray, List.set_cons_zero, List.set_cons_succ])
                go_cut [82] (fun v82 wc => ∃ (kq : Nat) (x82_45 : Bool), v82 = .bool x82_45 ∧ Aside0 (laws_FnExactMapBetween.j1 kq l0 l1 t212 t213 t222 x82_45 = some r) ∧ Aside0 (kq ≤ kj15) ∧ Aside0 (Kd.R k109 109 wc w.heap.size (fun k_ => some k_ ≠ (v224 : Value).ownBlock) v214 t212) ∧ Aside0 (Kd.R k109 109 wc w.heap.size (fun k_ => some k_ ≠ (v214 : Value).ownBlock) v224 t222) ∧ Aside0 (Below w.heap.size w wc))
                case first =>
                  have H := HC46.out
                  clear HC46
                  by_cases c55 : t237 < 0
                  · rw [if_pos c55] at H
                    have c55b0 : decide (t237 < 0) = true := decide_eq_true c55
                    clear c55
                    (first | rw [c55b0] | (simp only [i64_w, i32_w]; rw [c55b0]) | skip)
                    have H' := Aside0.mk H
                    clear H
                    go_wp2
                    go_meet
                    case rel => exact ⟨_, (true), t7_, H', ⟨by have := HJ15.out; first | omega | exact Nat.le_refl _⟩, ⟨by (with_reducible repeat (first | apply Kd.R_alloc | apply Kd.R_drewN | apply Kd.R_drew)); exact HO_6.out⟩, ⟨by (with_reducible repeat (first | apply Kd.R_alloc | apply Kd.R_drewN | apply Kd.R_drew)); exact HO_10.out⟩, ⟨t0_⟩⟩
                  · rw [if_neg c55] at H
                    have c55b0 : decide (t237 < 0) = false := decide_eq_false c55
                    clear c55
                    (first | rw [c55b0] | (simp only [i64_w, i32_w]; rw [c55b0]) | skip)
                    replace H := Option.bind_eq_some_iff.mp H
                    obtain ⟨t239, A560, H⟩ := H
                    replace H : (if t239 = true then (laws_FnExactMapBetween.j1 kj15 l0 l1 t212 t213 t222 (t223 != t213)) else (laws_FnExactMapBetween.j1 kj15 l0 l1 t212 t213 t222 true)) = some r := H
                    have A56 := Aside0.mk A560
                    clear A560
                    by_cases c57 : t239 = true
                    · subst c57
                      have H1 : (laws_FnExactMapBetween.j1 kj15 l0 l1 t212 t213 t222 (t223 != t213)) = some r := by rw [if_pos rfl] at H; exact H
                      clear H
                      have H := H1
                      clear H1
                      have H' := Aside0.mk H
                      clear H
                      obtain ⟨Ao58, co58, eo58⟩ := Kd.R_slice HO_10.out
                      subst eo58
                      obtain ⟨Ao59, co59, eo59⟩ := Kd.R_slice HO_6.out
                      subst eo59
                      go_wp2_with (first | (go_at_call 52; (with_reducible refine (laws_eqChangeS.calls kj15 _ _ t222 _ _ t212 true _ ?side1 ?side2 ?side3 ?side4 A56.out).mono ?_); (case side1 => repeat (first | exact (Kd.R_reads' HO_10.out).2.2 | (with_reducible refine Kd.C_alloc ?_ _) | (with_reducible refine Kd.C_drewN ?_ _) | (with_reducible refine Kd.C_drew ?_))); (case side2 => exact (Kd.R_reads' HO_10.out).2.1); (case side3 => repeat (first | exact (Kd.R_reads' HO_6.out).2.2 | (with_reducible refine Kd.C_alloc ?_ _) | (with_reducible refine Kd.C_drewN ?_ _) | (with_reducible refine Kd.C_drew ?_))); (case side4 => exact (Kd.R_reads' HO_6.out).2.1); rintro e w60 ⟨rfl, hb⟩; replace HO_6 := Aside0.mk (Kd.R_below t5_ hb); replace HO_8 := Aside0.mk (Kd.R_below t14_ hb); replace HO_9 := Aside0.mk (Kd.R_below t15_ hb); replace HO_10 := Aside0.mk (Kd.R_below t9_ hb); replace HO229 := Aside0.mk (Kd.R_below t19_ hb); replace HO233 := Aside0.mk (Kd.R_below (by (with_reducible repeat (first | apply Kd.R_alloc | apply Kd.R_drewN | apply Kd.R_drew)); exact HO233.out) hb); replace HB := Aside0.mk (below_step t0_ hb); (try clear hb); (try clear hb2); (try clear hk); (try clear hi)))
                      go_meet
                      case rel => exact ⟨_, ((t223 != t213)), t7_, H', ⟨by have := HJ15.out; first | omega | exact Nat.le_refl _⟩, ⟨by (with_reducible repeat (first | apply Kd.R_alloc | apply Kd.R_drewN | apply Kd.R_drew)); exact HO_6.out⟩, ⟨by (with_reducible repeat (first | apply Kd.R_alloc | apply Kd.R_drewN | apply Kd.R_drew)); exact HO_10.out⟩, ⟨t0_⟩⟩
                    · replace c57 := Bool.eq_false_iff.mpr c57
                      subst c57
                      have H1 : (laws_FnExactMapBetween.j1 kj15 l0 l1 t212 t213 t222 true) = some r := by rw [if_neg (show ¬ (false = true) by decide)] at H; exact H
                      clear H
                      have H := H1
                      clear H1
                      have H' := Aside0.mk H
                      clear H
                      obtain ⟨Ao61, co61, eo61⟩ := Kd.R_slice HO_10.out
                      subst eo61
                      obtain ⟨Ao62, co62, eo62⟩ := Kd.R_slice HO_6.out
                      subst eo62
                      go_wp2_with (first | (go_at_call 52; (with_reducible refine (laws_eqChangeS.calls kj15 _ _ t222 _ _ t212 false _ ?side1 ?side2 ?side3 ?side4 A56.out).mono ?_); (case side1 => repeat (first | exact (Kd.R_reads' HO_10.out).2.2 | (with_reducible refine Kd.C_alloc ?_ _) | (with_reducible refine Kd.C_drewN ?_ _) | (with_reducible refine Kd.C_drew ?_))); (case side2 => exact (Kd.R_reads' HO_10.out).2.1); (case side3 => repeat (first | exact (Kd.R_reads' HO_6.out).2.2 | (with_reducible refine Kd.C_alloc ?_ _) | (with_reducible refine Kd.C_drewN ?_ _) | (with_reducible refine Kd.C_drew ?_))); (case side4 => exact (Kd.R_reads' HO_6.out).2.1); rintro e w63 ⟨rfl, hb⟩; replace HO_6 := Aside0.mk (Kd.R_below t5_ hb); replace HO_8 := Aside0.mk (Kd.R_below t14_ hb); replace HO_9 := Aside0.mk (Kd.R_below t15_ hb); replace HO_10 := Aside0.mk (Kd.R_below t9_ hb); replace HO229 := Aside0.mk (Kd.R_below t19_ hb); replace HO233 := Aside0.mk (Kd.R_below (by (with_reducible repeat (first | apply Kd.R_alloc | apply Kd.R_drewN | apply Kd.R_drew)); exact HO233.out) hb); replace HB := Aside0.mk (below_step t0_ hb); (try clear hb); (try clear hb2); (try clear hk); (try clear hi)))
                      go_meet
                      case rel => exact ⟨_, (true), t7_, H', ⟨by have := HJ15.out; first | omega | exact Nat.le_refl _⟩, ⟨by (with_reducible repeat (first | apply Kd.R_alloc | apply Kd.R_drewN | apply Kd.R_drew)); exact HO_6.out⟩, ⟨by (with_reducible repeat (first | apply Kd.R_alloc | apply Kd.R_drewN | apply Kd.R_drew)); exact HO_10.out⟩, ⟨t0_⟩⟩
                case rest =>
                  clear HC46
                  try clear c1
                  try clear c2
                  try clear p2
                  try clear c3
                  try clear c4
                  try clear c4b0
                  try clear c5
                  try clear c7
                  try clear c7b0
                  try clear c10
                  try clear c24
                  try clear c30
                  try clear c37
                  try clear c40
                  try clear c41
                  try clear c43
                  try clear c44
                  try clear c46
                  try clear c48
                  try clear c51
                  try clear c52
                  try clear c55
                  try clear c55b0
                  try clear c57
                  try clear p2
                  obtain ⟨kq, x82_45, rfl, HA, HJ45, HO_6, HO_10, HB⟩ := hcut
                  cases kq with
                  | zero => exact absurd HA.out (by simp [laws_FnExactMapBetween.j1])
                  | succ kj45 =>
                    have H := HA.out
                    clear HA
                    simp only [laws_FnExactMapBetween.j1] at H
                    by_cases c64 : x82_45 = true
                    · subst c64
                      have H1 : (none) = some r := by rw [if_pos rfl] at H; exact H
                      clear H
                      have H := H1
                      clear H1
                      exact absurd H (by simp)
                    · replace c64 := Bool.eq_false_iff.mpr c64
                      subst c64
                      have H1 : ((laws_markChangeS.f kj45 t222 1).bind fun bt240 => ((laws_heldChangeS.f kj45 bt240.2 1).bind fun t242 => (if t242 < 0 then (none) else (if t242 = bt240.1 then ((laws_toPairS.f kj45 l0).bind fun t243 => ((laws_toPairS.f kj45 l1).bind fun t246 => ((impl_MapBetween.f kj45 t243 t246).bind fun bt249 => ((laws_eqChangeS.f kj45 bt249.1 t212).bind fun t253 => (if t253 = true then (laws_FnExactMapBetween.j2 kj45 bt240.2 bt240.1 (bt249.2 != t213)) else (laws_FnExactMapBetween.j2 kj45 bt240.2 bt240.1 true)))))) else (none))))) = some r := by rw [if_neg (show ¬ (false = true) by decide)] at H; exact H
                      clear H
                      have H := H1
                      clear H1
                      replace H := Option.bind_eq_some_iff.mp H
                      obtain ⟨⟨t240, t241⟩, A650, H⟩ := H
                      replace H : ((laws_heldChangeS.f kj45 t241 1).bind fun t242 => (if t242 < 0 then (none) else (if t242 = t240 then ((laws_toPairS.f kj45 l0).bind fun t243 => ((laws_toPairS.f kj45 l1).bind fun t246 => ((impl_MapBetween.f kj45 t243 t246).bind fun bt249 => ((laws_eqChangeS.f kj45 bt249.1 t212).bind fun t253 => (if t253 = true then (laws_FnExactMapBetween.j2 kj45 t241 t240 (bt249.2 != t213)) else (laws_FnExactMapBetween.j2 kj45 t241 t240 true)))))) else (none)))) = some r := H
                      have A65 := Aside0.mk A650
                      clear A650
                      replace H := Option.bind_eq_some_iff.mp H
                      obtain ⟨t242, A660, H⟩ := H
                      replace H : (if t242 < 0 then (none) else (if t242 = t240 then ((laws_toPairS.f kj45 l0).bind fun t243 => ((laws_toPairS.f kj45 l1).bind fun t246 => ((impl_MapBetween.f kj45 t243 t246).bind fun bt249 => ((laws_eqChangeS.f kj45 bt249.1 t212).bind fun t253 => (if t253 = true then (laws_FnExactMapBetween.j2 kj45 t241 t240 (bt249.2 != t213)) else (laws_FnExactMapBetween.j2 kj45 t241 t240 true)))))) else (none))) = some r := H
                      have A66 := Aside0.mk A660
                      clear A660
                      by_cases c67 : t242 < 0
                      · rw [if_pos c67] at H
                        exact absurd H (by simp)
                      · rw [if_neg c67] at H
                        have c67b0 : decide (t242 < 0) = false := decide_eq_false c67
                        clear c67
                        by_cases c68 : t242 = t240
                        · rw [if_pos c68] at H
                          have c68b0 : (t242 == t240) = true := beq_iff_eq.mpr c68
                          have c68b1 : (t242 != t240) = false := bne_eq_false_iff_eq.mpr c68
                          clear c68
                          replace H := Option.bind_eq_some_iff.mp H
                          obtain ⟨t243, A690, H⟩ := H
                          replace H : ((laws_toPairS.f kj45 l1).bind fun t246 => ((impl_MapBetween.f kj45 t243 t246).bind fun bt249 => ((laws_eqChangeS.f kj45 bt249.1 t212).bind fun t253 => (if t253 = true then (laws_FnExactMapBetween.j2 kj45 t241 t240 (bt249.2 != t213)) else (laws_FnExactMapBetween.j2 kj45 t241 t240 true))))) = some r := H
                          have A69 := Aside0.mk A690
                          clear A690
                          replace H := Option.bind_eq_some_iff.mp H
                          obtain ⟨t246, A700, H⟩ := H
                          replace H : ((impl_MapBetween.f kj45 t243 t246).bind fun bt249 => ((laws_eqChangeS.f kj45 bt249.1 t212).bind fun t253 => (if t253 = true then (laws_FnExactMapBetween.j2 kj45 t241 t240 (bt249.2 != t213)) else (laws_FnExactMapBetween.j2 kj45 t241 t240 true)))) = some r := H
                          have A70 := Aside0.mk A700
                          clear A700
                          replace H := Option.bind_eq_some_iff.mp H
                          obtain ⟨⟨t249, t250⟩, A710, H⟩ := H
                          replace H : ((laws_eqChangeS.f kj45 t249 t212).bind fun t253 => (if t253 = true then (laws_FnExactMapBetween.j2 kj45 t241 t240 (t250 != t213)) else (laws_FnExactMapBetween.j2 kj45 t241 t240 true))) = some r := H
                          have A71 := Aside0.mk A710
                          clear A710
                          have HC72 := Aside0.mk H
                          clear H
                          obtain ⟨Ao73, co73, eo73⟩ := Kd.R_slice HO_10.out
                          subst eo73
                          go_upto_region 32 with (first | ((with_reducible refine gate_callee (f := 53) rfl ?_); refine goesL_ (some 85) rfl rfl Try.func53 (by kernel_rfl) rfl #[.slice Ao73 t222.length co73, .int .i64 1] rfl t3_ ?_; (with_reducible refine (laws_markChangeS.calls kj45 (fun k_ => some k_ = (.slice Ao73 t222.length co73 : Value).ownBlock) (.slice Ao73 t222.length co73) t222 1 t240 t241 w _ ?side1 ?side2 A65.out).mono ?_); (case side1 => repeat (first | (with_reducible first | exact HB.out | apply below_alloc | apply pw_below_drewN | apply below_drew1) | exact HB.out)); (case side2 => exact Kd.R_tight rfl HO_10.out); rintro e w74 ⟨rfl, hy0, hb, hkp⟩; refine ⟨_, rfl, ?_⟩; replace HO_6 := Aside0.mk (Kd.R_mono (ok' := fun k_ => some k_ ≠ (.slice Ao73 t222.length co73 : Value).ownBlock) (Kd.R_keptB (HO_6.out) hkp (fun k_ hk_ hs_ => (hk_) hs_)) (fun k_ hk_ => hk_.1)); replace HO_10 := Aside0.mk (Kd.R_reok rfl hy0 (fun k_ e_ => HO_10.out.1 k_ e_)); replace HB := Aside0.mk (hb); (try clear hb); (try clear hkp); (try clear hy0)) | ((with_reducible refine gate_callee (f := 54) rfl ?_); refine goesL_ (some 88) rfl rfl Try.func54 (by kernel_rfl) rfl #[.slice Ao73 t241.length co73, .int .i64 1] rfl (by (try simp only [List.map_toArray, List.map_cons, List.map_nil]); first | done | (rw [show t241.length = t222.length from (Kd.R_reads' HO_10.out).1.symm] <;> rfl) | rfl | (simp only [List.length_drop, List.length_take]; rfl)) ?_; (with_reducible refine (laws_heldChangeS.calls kj45 _ _ t241 1 t242 _ ?side1 ?side2 A66.out).mono ?_); (case side1 => repeat (first | exact (Kd.R_reads' HO_10.out).2.2 | (with_reducible refine Kd.C_alloc ?_ _) | (with_reducible refine Kd.C_drewN ?_ _) | (with_reducible refine Kd.C_drew ?_))); (case side2 => rw [show t241.length = t222.length from (Kd.R_reads' HO_10.out).1.symm]; exact (Kd.R_reads' HO_10.out).2.1); rintro e w75 ⟨rfl, hb⟩; refine ⟨_, rfl, ?_⟩; replace HO_6 := Aside0.mk (Kd.R_below t5_ hb); replace HO_10 := Aside0.mk (Kd.R_below t9_ hb); replace HB := Aside0.mk (below_step t0_ hb); (try clear hb); (try clear hb2); (try clear hk); (try clear hi)) | ((with_reducible refine gate_callee (f := 44) rfl ?_); refine goesL_ (some 96) rfl rfl Try.func44 (by kernel_rfl) rfl #[.slice A0 l0.length c0] rfl t3_ ?_; (with_reducible refine (laws_toPairS.calls kj45 _ _ l0 t243 _ ?side1 ?side2 A69.out).mono ?_); (case side1 => exact cB HR0 HB); (case side2 => exact HC0.out); rintro e w76 ⟨v244, rfl, ho0, hb⟩; refine ⟨_, rfl, ?_⟩; replace HO_6 := Aside0.mk (Kd.R_below t5_ hb); replace HO_10 := Aside0.mk (Kd.R_below t9_ hb); have HO245 := Aside0.mk (Kd.R_lower ho0 (below_size t0_)); replace HB := Aside0.mk (below_step t0_ hb); (try clear hb); (try clear hb2); (try clear hk); (try clear hi); (try clear ho0)) | ((with_reducible refine gate_callee (f := 44) rfl ?_); refine goesL_ (some 98) rfl rfl Try.func44 (by kernel_rfl) rfl #[.slice A1 l1.length c1] rfl t3_ ?_; (with_reducible refine (laws_toPairS.calls kj45 _ _ l1 t246 _ ?side1 ?side2 A70.out).mono ?_); (case side1 => exact cB HR1 HB); (case side2 => exact HC1.out); rintro e w77 ⟨v247, rfl, ho0, hb⟩; refine ⟨_, rfl, ?_⟩; replace HO_6 := Aside0.mk (Kd.R_below t5_ hb); replace HO_10 := Aside0.mk (Kd.R_below t9_ hb); have HO248 := Aside0.mk (Kd.R_lower (Kd.R_new' ho0 (Kd.R_lt t21_)) (below_size t0_)); replace HO245 := Aside0.mk (Kd.R_elder' t21_ (Kd.R_base ho0) hb); replace HB := Aside0.mk (below_step t0_ hb); (try clear hb); (try clear hb2); (try clear hk); (try clear hi); (try clear ho0); obtain ⟨Ao78, co78, eo78⟩ := Kd.R_slice HO245.out; subst eo78; obtain ⟨Ao79, co79, eo79⟩ := Kd.R_slice HO248.out; subst eo79) | ((with_reducible refine gate_callee (f := 24) rfl ?_); refine goesL_ (some 99) rfl rfl Try.func24 (by kernel_rfl) rfl #[.slice Ao78 t243.length co78, .slice Ao79 t246.length co79] rfl t3_ ?_; (with_reducible refine (impl_MapBetween.calls kj45 _ _ t243 _ _ t246 t249 t250 _ ?side1 ?side2 ?side3 ?side4 A71.out).mono ?_); (case side1 => repeat (first | exact (Kd.R_reads' HO245.out).2.2 | (with_reducible refine Kd.C_alloc ?_ _) | (with_reducible refine Kd.C_drewN ?_ _) | (with_reducible refine Kd.C_drew ?_))); (case side2 => exact (Kd.R_reads' HO245.out).2.1); (case side3 => repeat (first | exact (Kd.R_reads' HO248.out).2.2 | (with_reducible refine Kd.C_alloc ?_ _) | (with_reducible refine Kd.C_drewN ?_ _) | (with_reducible refine Kd.C_drew ?_))); (case side4 => exact (Kd.R_reads' HO248.out).2.1); rintro e w80 ⟨v251, rfl, ho0, hb⟩; refine ⟨_, rfl, ?_⟩; replace HO245 := Aside0.mk (Kd.R_below t21_ hb); replace HO248 := Aside0.mk (Kd.R_below (by (with_reducible repeat (first | apply Kd.R_alloc | apply Kd.R_drewN | apply Kd.R_drew)); exact HO248.out) hb); have HO252 := Aside0.mk (Kd.R_lower (Kd.R_new' (Kd.R_new' ho0 (Kd.R_lt t5_)) (Kd.R_lt t9_)) (below_size t0_)); replace HO_6 := Aside0.mk (Kd.R_elder' t5_ (Kd.R_base ho0) hb); replace HO_10 := Aside0.mk (Kd.R_elder' t9_ (Kd.R_base ho0) hb); replace HB := Aside0.mk (below_step t0_ hb); (try clear hb); (try clear hb2); (try clear hk); (try clear hi); (try clear ho0)))
                          (try simp only [Act.put, List.setIfInBounds_toArray, List.set_cons_zero, List.set_cons_succ])
                          go_cut [110] (fun v110 wc => ∃ (kq : Nat) (x110_71 : Bool), v110 = .bool x110_71 ∧ Aside0 (laws_FnExactMapBetween.j2 kq t241 t240 x110_71 = some r) ∧ Aside0 (kq ≤ kj45) ∧ Aside0 (Kd.R k109 109 wc w.heap.size (fun _ => True) (.slice Ao73 t222.length co73) t241) ∧ Aside0 (Below w.heap.size w wc))
                          case first =>
                            have H := HC72.out
                            clear HC72
                            replace H := Option.bind_eq_some_iff.mp H
                            obtain ⟨t253, A810, H⟩ := H
                            replace H : (if t253 = true then (laws_FnExactMapBetween.j2 kj45 t241 t240 (t250 != t213)) else (laws_FnExactMapBetween.j2 kj45 t241 t240 true)) = some r := H
                            have A81 := Aside0.mk A810
                            clear A810
                            by_cases c82 : t253 = true
                            · subst c82
                              have H1 : (laws_FnExactMapBetween.j2 kj45 t241 t240 (t250 != t213)) = some r := by rw [if_pos rfl] at H; exact H
                              clear H
                              have H := H1
                              clear H1
                              have H' := Aside0.mk H
                              clear H
                              obtain ⟨Ao83, co83, eo83⟩ := Kd.R_slice HO252.out
                              subst eo83
                              obtain ⟨Ao84, co84, eo84⟩ := Kd.R_slice HO_6.out
                              subst eo84
                              go_wp2_with (first | ((with_reducible refine gate_callee (f := 52) rfl ?_); refine goesL_ (some 104) rfl rfl Try.func52 (by kernel_rfl) rfl #[.slice Ao83 t249.length co83, .slice Ao84 t212.length co84] rfl t3_ ?_; (with_reducible refine (laws_eqChangeS.calls kj45 _ _ t249 _ _ t212 true _ ?side1 ?side2 ?side3 ?side4 A81.out).mono ?_); (case side1 => repeat (first | exact (Kd.R_reads' HO252.out).2.2 | (with_reducible refine Kd.C_alloc ?_ _) | (with_reducible refine Kd.C_drewN ?_ _) | (with_reducible refine Kd.C_drew ?_))); (case side2 => exact (Kd.R_reads' HO252.out).2.1); (case side3 => repeat (first | exact (Kd.R_reads' HO_6.out).2.2 | (with_reducible refine Kd.C_alloc ?_ _) | (with_reducible refine Kd.C_drewN ?_ _) | (with_reducible refine Kd.C_drew ?_))); (case side4 => exact (Kd.R_reads' HO_6.out).2.1); rintro e w85 ⟨rfl, hb⟩; refine ⟨_, rfl, ?_⟩; replace HO_6 := Aside0.mk (Kd.R_below t5_ hb); replace HO_10 := Aside0.mk (Kd.R_below t9_ hb); replace HO245 := Aside0.mk (Kd.R_below t21_ hb); replace HO248 := Aside0.mk (Kd.R_below (by (with_reducible repeat (first | apply Kd.R_alloc | apply Kd.R_drewN | apply Kd.R_drew)); exact HO248.out) hb); replace HO252 := Aside0.mk (Kd.R_below (by (with_reducible repeat (first | apply Kd.R_alloc | apply Kd.R_drewN | apply Kd.R_drew)); exact HO252.out) hb); replace HB := Aside0.mk (below_step t0_ hb); (try clear hb); (try clear hb2); (try clear hk); (try clear hi)))
                              go_meet
                              case rel => exact ⟨_, ((t250 != t213)), t7_, H', ⟨by have := HJ15.out; have := HJ45.out; first | omega | exact Nat.le_refl _⟩, ⟨by (with_reducible repeat (first | apply Kd.R_alloc | apply Kd.R_drewN | apply Kd.R_drew)); exact Kd.R_mono HO_10.out (fun _ hk => trivial)⟩, ⟨t0_⟩⟩
                            · replace c82 := Bool.eq_false_iff.mpr c82
                              subst c82
                              have H1 : (laws_FnExactMapBetween.j2 kj45 t241 t240 true) = some r := by rw [if_neg (show ¬ (false = true) by decide)] at H; exact H
                              clear H
                              have H := H1
                              clear H1
                              have H' := Aside0.mk H
                              clear H
                              obtain ⟨Ao86, co86, eo86⟩ := Kd.R_slice HO252.out
                              subst eo86
                              obtain ⟨Ao87, co87, eo87⟩ := Kd.R_slice HO_6.out
                              subst eo87
                              go_wp2_with (first | ((with_reducible refine gate_callee (f := 52) rfl ?_); refine goesL_ (some 104) rfl rfl Try.func52 (by kernel_rfl) rfl #[.slice Ao86 t249.length co86, .slice Ao87 t212.length co87] rfl t3_ ?_; (with_reducible refine (laws_eqChangeS.calls kj45 _ _ t249 _ _ t212 false _ ?side1 ?side2 ?side3 ?side4 A81.out).mono ?_); (case side1 => repeat (first | exact (Kd.R_reads' HO252.out).2.2 | (with_reducible refine Kd.C_alloc ?_ _) | (with_reducible refine Kd.C_drewN ?_ _) | (with_reducible refine Kd.C_drew ?_))); (case side2 => exact (Kd.R_reads' HO252.out).2.1); (case side3 => repeat (first | exact (Kd.R_reads' HO_6.out).2.2 | (with_reducible refine Kd.C_alloc ?_ _) | (with_reducible refine Kd.C_drewN ?_ _) | (with_reducible refine Kd.C_drew ?_))); (case side4 => exact (Kd.R_reads' HO_6.out).2.1); rintro e w88 ⟨rfl, hb⟩; refine ⟨_, rfl, ?_⟩; replace HO_6 := Aside0.mk (Kd.R_below t5_ hb); replace HO_10 := Aside0.mk (Kd.R_below t9_ hb); replace HO245 := Aside0.mk (Kd.R_below t21_ hb); replace HO248 := Aside0.mk (Kd.R_below (by (with_reducible repeat (first | apply Kd.R_alloc | apply Kd.R_drewN | apply Kd.R_drew)); exact HO248.out) hb); replace HO252 := Aside0.mk (Kd.R_below (by (with_reducible repeat (first | apply Kd.R_alloc | apply Kd.R_drewN | apply Kd.R_drew)); exact HO252.out) hb); replace HB := Aside0.mk (below_step t0_ hb); (try clear hb); (try clear hb2); (try clear hk); (try clear hi)))
                              go_meet
                              case rel => exact ⟨_, (true), t7_, H', ⟨by have := HJ15.out; have := HJ45.out; first | omega | exact Nat.le_refl _⟩, ⟨by (with_reducible repeat (first | apply Kd.R_alloc | apply Kd.R_drewN | apply Kd.R_drew)); exact Kd.R_mono HO_10.out (fun _ hk => trivial)⟩, ⟨t0_⟩⟩
                          case rest =>
                            clear HC72
                            try clear c1
                            try clear c2
                            try clear p2
                            try clear c3
                            try clear c4
                            try clear c4b0
                            try clear c5
                            try clear c6
                            try clear c7
                            try clear c7b0
                            try clear c8
                            try clear c10
                            try clear c24
                            try clear c30
                            try clear c37
                            try clear c40
                            try clear c41
                            try clear c43
                            try clear c44
                            try clear c46
                            try clear c48
                            try clear c51
                            try clear c52
                            try clear c53
                            try clear c54
                            try clear c55
                            try clear c55b0
                            try clear c57
                            try clear c64
                            try clear c67
                            try clear c67b0
                            try clear c68
                            try clear c68b0
                            try clear c68b1
                            try clear c82
                            try clear p2
                            obtain ⟨kq, x110_71, rfl, HA, HJ71, HO_10, HB⟩ := hcut
                            have hl10_71 := (Kd.R_reads' HO_10.out).1
                            rw [hl10_71] at HO_10
                            (try simp only [hl10_71])
                            cases kq with
                            | zero => exact absurd HA.out (by simp [laws_FnExactMapBetween.j2])
                            | succ kj71 =>
                              have H := HA.out
                              clear HA
                              simp only [laws_FnExactMapBetween.j2] at H
                              by_cases c89 : x110_71 = true
                              · subst c89
                                have H1 : (none) = some r := by rw [if_pos rfl] at H; exact H
                                clear H
                                have H := H1
                                clear H1
                                exact absurd H (by simp)
                              · replace c89 := Bool.eq_false_iff.mpr c89
                                subst c89
                                have H1 : ((laws_heldChangeS.f kj71 t241 1).bind fun t254 => (if t254 < 0 then (none) else (if t254 = t240 then (some true) else (none)))) = some r := by rw [if_neg (show ¬ (false = true) by decide)] at H; exact H
                                clear H
                                have H := H1
                                clear H1
                                replace H := Option.bind_eq_some_iff.mp H
                                obtain ⟨t254, A900, H⟩ := H
                                replace H : (if t254 < 0 then (none) else (if t254 = t240 then (some true) else (none))) = some r := H
                                have A90 := Aside0.mk A900
                                clear A900
                                by_cases c91 : t254 < 0
                                · rw [if_pos c91] at H
                                  exact absurd H (by simp)
                                · rw [if_neg c91] at H
                                  have c91b0 : decide (t254 < 0) = false := decide_eq_false c91
                                  clear c91
                                  by_cases c92 : t254 = t240
                                  · rw [if_pos c92] at H
                                    have c92b0 : (t254 == t240) = true := beq_iff_eq.mpr c92
                                    have c92b1 : (t254 != t240) = false := bne_eq_false_iff_eq.mpr c92
                                    clear c92
                                    obtain rfl := Option.some.inj H
                                    go_wp2_with (first | ((with_reducible refine gate_callee (f := 54) rfl ?_); refine goesL_ (some 113) rfl rfl Try.func54 (by kernel_rfl) rfl #[.slice Ao73 t241.length co73, .int .i64 1] rfl t3_ ?_; (with_reducible refine (laws_heldChangeS.calls kj71 _ _ t241 1 t254 _ ?side1 ?side2 A90.out).mono ?_); (case side1 => repeat (first | exact (Kd.R_reads' HO_10.out).2.2 | (with_reducible refine Kd.C_alloc ?_ _) | (with_reducible refine Kd.C_drewN ?_ _) | (with_reducible refine Kd.C_drew ?_))); (case side2 => exact (Kd.R_reads' HO_10.out).2.1); rintro e w93 ⟨rfl, hb⟩; refine ⟨_, rfl, ?_⟩; replace HO_10 := Aside0.mk (Kd.R_below t9_ hb); replace HB := Aside0.mk (below_step t0_ hb); (try clear hb); (try clear hb2); (try clear hk); (try clear hi)))
                                    go_ret
                                    exact ⟨by first | rfl | (simp [errW_none, errW_some] <;> rfl) | (simp [*, errW_none, errW_some] <;> rfl), t0_⟩
                                  · rw [if_neg c92] at H
                                    exact absurd H (by simp)
                        · rw [if_neg c68] at H
                          exact absurd H (by simp)
              · replace c43 := Bool.eq_false_iff.mpr c43
                subst c43
                have H1 : (none) = some r := by rw [if_neg (show ¬ (false = true) by decide)] at H; exact H
                clear H
                have H := H1
                clear H1
                exact absurd H (by simp)
            · replace c40 := Bool.eq_false_iff.mpr c40
              subst c40
              have H1 : (none) = some r := by rw [if_neg (show ¬ (false = true) by decide)] at H; exact H
              clear H
              have H := H1
              clear H1
              exact absurd H (by simp)

end Go.Proofs.Ytpjhbhjmaggheaa.QFnExactMapBetween
