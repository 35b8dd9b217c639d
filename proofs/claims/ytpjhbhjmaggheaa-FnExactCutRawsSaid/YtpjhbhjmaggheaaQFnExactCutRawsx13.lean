-- By a program of this session, over the kit's print.
import Derived.Test.YtpjhbhjmaggheaaQFnExactCutRawsx0
import Derived.Test.YtpjhbhjmaggheaaQFnExactCutRawsx1
import Derived.Test.YtpjhbhjmaggheaaQFnExactCutRawsx6
import Derived.Test.YtpjhbhjmaggheaaQFnExactCutRawsx10
import Derived.Test.YtpjhbhjmaggheaaQFnExactCutRawsx11
import Derived.Test.YtpjhbhjmaggheaaQFnExactCutRawsx12
namespace Go.Proofs.Ytpjhbhjmaggheaa.QFnExactCutRaws
open Go.RowKit Go.Proofs.YtpjhbhjmaggheaaW.PrintWords Go.Proofs.YtpjhbhjmaggheaaW.PrintLast Go.Proofs.YtpjhbhjmaggheaaW.PrintMore
attribute [local go_sem] max2_int min2_int max_two min_two max_three min_three max_four min_four   -- for this text's walks alone
set_option linter.unusedVariables false
set_option linter.unusedSimpArgs false

/-! ### laws_FnExactCutRaws: function 3 -/
mutual
def laws_FnExactCutRaws.j0 : Nat → List (S73) → Int → Int → Bool → List (S65) → Bool → Bool → List (S136) → List (S71) → List (S71) → List (S71) → Option (Bool)
 | 0, _, _, _, _, _, _, _, _, _, _, _ => none
 | k + 1, x1, x2, x3, x11, x13, x15, x61, x416000, x429000, x433000, x441000 => if x61 = true then (none) else ((laws_toDisk.f k x416000).bind fun t442 => ((laws_eqDisk.f k x433000 t442).bind fun t445 => (if t445 = true then ((laws_toRawS.f k x1).bind fun t446 => ((laws_eqRawS.f k x13 t446).bind fun t449 => (if t449 = true then ((laws_markDisk.f k x433000 1).bind fun bt450 => ((laws_markRawS.f k x13 bt450.1).bind fun bt452 => (if bt452.1 < 0 then (laws_FnExactCutRaws.j1 k x1 x2 x3 x11 true x416000 x429000 x441000) else ((laws_eqDisk.f k x441000 x429000).bind fun t454 => (if t454 = true then (laws_FnExactCutRaws.j1 k x1 x2 x3 x11 (x15 != x11) x416000 x429000 x441000) else (laws_FnExactCutRaws.j1 k x1 x2 x3 x11 true x416000 x429000 x441000)))))) else (none)))) else (none))))
def laws_FnExactCutRaws.j1 : Nat → List (S73) → Int → Int → Bool → Bool → List (S136) → List (S71) → List (S71) → Option (Bool)
 | 0, _, _, _, _, _, _, _, _ => none
 | k + 1, x1, x2, x3, x11, x90, x416000, x429000, x441000 => if x90 = true then (none) else ((laws_markDisk.f k x441000 1).bind fun bt455 => ((laws_heldDisk.f k bt455.2 1).bind fun t457 => (if t457 < 0 then (none) else (if t457 = bt455.1 then ((laws_toDisk.f k x416000).bind fun t458 => ((laws_toRawS.f k x1).bind fun t461 => ((impl_CutRaws.f k t458 t461 x2 x3).bind fun bt464 => ((laws_eqDisk.f k bt464.1 x429000).bind fun t469 => (if t469 = true then (laws_FnExactCutRaws.j2 k bt455.1 (bt464.2 != x11) bt455.2) else (laws_FnExactCutRaws.j2 k bt455.1 true bt455.2)))))) else (none)))))
def laws_FnExactCutRaws.j2 : Nat → Int → Bool → List (S71) → Option (Bool)
 | 0, _, _, _ => none
 | k + 1, x17, x120, x441000 => if x120 = true then (none) else ((laws_heldDisk.f k x441000 1).bind fun t470 => (if t470 < 0 then (none) else (if t470 = x17 then (some true) else (none))))
end
def laws_FnExactCutRaws.f (k : Nat) (l0_0 : List (S136)) (l1 : List (S73)) (a2 : Int) (a3 : Int) : Option (Bool) := (laws_szDisk.f k l0_0 1048576).bind fun t416 => (if t416 < 0 then (some true) else ((laws_szRawS.f k l1 t416).bind fun t417 => (if t417 < 0 then (some true) else ((laws_toDisk.f k l0_0).bind fun t418 => ((laws_toRawS.f k l1).bind fun t421 => ((spec_CutRaws.f k t418 t421 a2 a3).bind fun bt424 => ((laws_toDisk.f k l0_0).bind fun t429 => ((laws_toRawS.f k l1).bind fun t433 => ((impl_CutRaws.f k t429 t433 a2 a3).bind fun bt436 => ((laws_eqDisk.f k bt436.1 bt424.1).bind fun t441 => (if t441 = true then (laws_FnExactCutRaws.j0 k l1 a2 a3 bt424.2 t433 bt436.2 (bt436.2 != bt424.2) l0_0 bt424.1 t429 bt436.1) else (laws_FnExactCutRaws.j0 k l1 a2 a3 bt424.2 t433 bt436.2 true l0_0 bt424.1 t429 bt436.1))))))))))))
theorem laws_FnExactCutRaws.mono_l : ∀ k, (∀ y0 y1 y2 y3 y4 y5 y6 y7 y8 y9 y10, LeO (laws_FnExactCutRaws.j0 k y0 y1 y2 y3 y4 y5 y6 y7 y8 y9 y10) (laws_FnExactCutRaws.j0 (k + 1) y0 y1 y2 y3 y4 y5 y6 y7 y8 y9 y10)) ∧ (∀ y0 y1 y2 y3 y4 y5 y6 y7, LeO (laws_FnExactCutRaws.j1 k y0 y1 y2 y3 y4 y5 y6 y7) (laws_FnExactCutRaws.j1 (k + 1) y0 y1 y2 y3 y4 y5 y6 y7)) ∧ (∀ y0 y1 y2, LeO (laws_FnExactCutRaws.j2 k y0 y1 y2) (laws_FnExactCutRaws.j2 (k + 1) y0 y1 y2))
 | 0 => ⟨fun _ _ _ _ _ _ _ _ _ _ _ r h => by simp [laws_FnExactCutRaws.j0] at h, fun _ _ _ _ _ _ _ _ r h => by simp [laws_FnExactCutRaws.j1] at h, fun _ _ _ r h => by simp [laws_FnExactCutRaws.j2] at h⟩
 | k + 1 => by
  obtain ⟨ih0, ih1, ih2⟩ := laws_FnExactCutRaws.mono_l k; refine ⟨?_, ?_, ?_⟩
  · intro y0 y1 y2 y3 y4 y5 y6 y7 y8 y9 y10
    unfold laws_FnExactCutRaws.j0
    repeat' first
    | (with_reducible exact ih0 _ _ _ _ _ _ _ _ _ _ _)
    | (with_reducible exact ih1 _ _ _ _ _ _ _ _)
    | (with_reducible exact ih2 _ _ _)
    | (with_reducible exact impl_CutRaws.mono _ _ _ _ _)
    | (with_reducible exact laws_eqDisk.mono _ _ _)
    | (with_reducible exact laws_eqRawS.mono _ _ _)
    | (with_reducible exact laws_heldDisk.mono _ _ _)
    | (with_reducible exact laws_markDisk.mono _ _ _)
    | (with_reducible exact laws_markRawS.mono _ _ _)
    | (with_reducible exact laws_szDisk.mono _ _ _)
    | (with_reducible exact laws_szRawS.mono _ _ _)
    | (with_reducible exact laws_toDisk.mono _ _)
    | (with_reducible exact laws_toRawS.mono _ _)
    | (with_reducible exact spec_CutRaws.mono _ _ _ _ _)
    | (with_reducible exact LeO.refl _)
    | (with_reducible exact LeO.none _)
    | (with_reducible refine LeO.ite ?_ ?_)
    | (with_reducible refine LeO.bind ?_ (fun _ => ?_))
    | exact ih0 _ _ _ _ _ _ _ _ _ _ _
    | exact ih1 _ _ _ _ _ _ _ _
    | exact ih2 _ _ _
    | exact impl_CutRaws.mono _ _ _ _ _
    | exact laws_eqDisk.mono _ _ _
    | exact laws_eqRawS.mono _ _ _
    | exact laws_heldDisk.mono _ _ _
    | exact laws_markDisk.mono _ _ _
    | exact laws_markRawS.mono _ _ _
    | exact laws_szDisk.mono _ _ _
    | exact laws_szRawS.mono _ _ _
    | exact laws_toDisk.mono _ _
    | exact laws_toRawS.mono _ _
    | exact spec_CutRaws.mono _ _ _ _ _
    | exact LeO.none _
    | refine LeO.ite ?_ ?_
    | refine LeO.bind ?_ (fun _ => ?_)
  · intro y0 y1 y2 y3 y4 y5 y6 y7
    unfold laws_FnExactCutRaws.j1
    repeat' first
    | (with_reducible exact ih0 _ _ _ _ _ _ _ _ _ _ _)
    | (with_reducible exact ih1 _ _ _ _ _ _ _ _)
    | (with_reducible exact ih2 _ _ _)
    | (with_reducible exact impl_CutRaws.mono _ _ _ _ _)
    | (with_reducible exact laws_eqDisk.mono _ _ _)
    | (with_reducible exact laws_eqRawS.mono _ _ _)
    | (with_reducible exact laws_heldDisk.mono _ _ _)
    | (with_reducible exact laws_markDisk.mono _ _ _)
    | (with_reducible exact laws_markRawS.mono _ _ _)
    | (with_reducible exact laws_szDisk.mono _ _ _)
    | (with_reducible exact laws_szRawS.mono _ _ _)
    | (with_reducible exact laws_toDisk.mono _ _)
    | (with_reducible exact laws_toRawS.mono _ _)
    | (with_reducible exact spec_CutRaws.mono _ _ _ _ _)
    | (with_reducible exact LeO.refl _)
    | (with_reducible exact LeO.none _)
    | (with_reducible refine LeO.ite ?_ ?_)
    | (with_reducible refine LeO.bind ?_ (fun _ => ?_))
    | exact ih0 _ _ _ _ _ _ _ _ _ _ _
    | exact ih1 _ _ _ _ _ _ _ _
    | exact ih2 _ _ _
    | exact impl_CutRaws.mono _ _ _ _ _
    | exact laws_eqDisk.mono _ _ _
    | exact laws_eqRawS.mono _ _ _
    | exact laws_heldDisk.mono _ _ _
    | exact laws_markDisk.mono _ _ _
    | exact laws_markRawS.mono _ _ _
    | exact laws_szDisk.mono _ _ _
    | exact laws_szRawS.mono _ _ _
    | exact laws_toDisk.mono _ _
    | exact laws_toRawS.mono _ _
    | exact spec_CutRaws.mono _ _ _ _ _
    | exact LeO.none _
    | refine LeO.ite ?_ ?_
    | refine LeO.bind ?_ (fun _ => ?_)
  · intro y0 y1 y2
    unfold laws_FnExactCutRaws.j2
    repeat' first
    | (with_reducible exact ih0 _ _ _ _ _ _ _ _ _ _ _)
    | (with_reducible exact ih1 _ _ _ _ _ _ _ _)
    | (with_reducible exact ih2 _ _ _)
    | (with_reducible exact impl_CutRaws.mono _ _ _ _ _)
    | (with_reducible exact laws_eqDisk.mono _ _ _)
    | (with_reducible exact laws_eqRawS.mono _ _ _)
    | (with_reducible exact laws_heldDisk.mono _ _ _)
    | (with_reducible exact laws_markDisk.mono _ _ _)
    | (with_reducible exact laws_markRawS.mono _ _ _)
    | (with_reducible exact laws_szDisk.mono _ _ _)
    | (with_reducible exact laws_szRawS.mono _ _ _)
    | (with_reducible exact laws_toDisk.mono _ _)
    | (with_reducible exact laws_toRawS.mono _ _)
    | (with_reducible exact spec_CutRaws.mono _ _ _ _ _)
    | (with_reducible exact LeO.refl _)
    | (with_reducible exact LeO.none _)
    | (with_reducible refine LeO.ite ?_ ?_)
    | (with_reducible refine LeO.bind ?_ (fun _ => ?_))
    | exact ih0 _ _ _ _ _ _ _ _ _ _ _
    | exact ih1 _ _ _ _ _ _ _ _
    | exact ih2 _ _ _
    | exact impl_CutRaws.mono _ _ _ _ _
    | exact laws_eqDisk.mono _ _ _
    | exact laws_eqRawS.mono _ _ _
    | exact laws_heldDisk.mono _ _ _
    | exact laws_markDisk.mono _ _ _
    | exact laws_markRawS.mono _ _ _
    | exact laws_szDisk.mono _ _ _
    | exact laws_szRawS.mono _ _ _
    | exact laws_toDisk.mono _ _
    | exact laws_toRawS.mono _ _
    | exact spec_CutRaws.mono _ _ _ _ _
    | exact LeO.none _
    | refine LeO.ite ?_ ?_
    | refine LeO.bind ?_ (fun _ => ?_)
theorem laws_FnExactCutRaws.mono : ∀ a0 a1 a2 a3 k, LeO (laws_FnExactCutRaws.f k a0 a1 a2 a3) (laws_FnExactCutRaws.f (k + 1) a0 a1 a2 a3) := by
 intro a0 a1 a2 a3 k; obtain ⟨ih0, ih1, ih2⟩ := laws_FnExactCutRaws.mono_l k
 unfold laws_FnExactCutRaws.f
 repeat' first
  | (with_reducible exact ih0 _ _ _ _ _ _ _ _ _ _ _)
  | (with_reducible exact ih1 _ _ _ _ _ _ _ _)
  | (with_reducible exact ih2 _ _ _)
  | (with_reducible exact impl_CutRaws.mono _ _ _ _ _)
  | (with_reducible exact laws_eqDisk.mono _ _ _)
  | (with_reducible exact laws_eqRawS.mono _ _ _)
  | (with_reducible exact laws_heldDisk.mono _ _ _)
  | (with_reducible exact laws_markDisk.mono _ _ _)
  | (with_reducible exact laws_markRawS.mono _ _ _)
  | (with_reducible exact laws_szDisk.mono _ _ _)
  | (with_reducible exact laws_szRawS.mono _ _ _)
  | (with_reducible exact laws_toDisk.mono _ _)
  | (with_reducible exact laws_toRawS.mono _ _)
  | (with_reducible exact spec_CutRaws.mono _ _ _ _ _)
  | (with_reducible exact LeO.refl _)
  | (with_reducible exact LeO.none _)
  | (with_reducible refine LeO.ite ?_ ?_)
  | (with_reducible refine LeO.bind ?_ (fun _ => ?_))
  | exact ih0 _ _ _ _ _ _ _ _ _ _ _
  | exact ih1 _ _ _ _ _ _ _ _
  | exact ih2 _ _ _
  | exact impl_CutRaws.mono _ _ _ _ _
  | exact laws_eqDisk.mono _ _ _
  | exact laws_eqRawS.mono _ _ _
  | exact laws_heldDisk.mono _ _ _
  | exact laws_markDisk.mono _ _ _
  | exact laws_markRawS.mono _ _ _
  | exact laws_szDisk.mono _ _ _
  | exact laws_szRawS.mono _ _ _
  | exact laws_toDisk.mono _ _
  | exact laws_toRawS.mono _ _
  | exact spec_CutRaws.mono _ _ _ _ _
  | exact LeO.none _
  | refine LeO.ite ?_ ?_
  | refine LeO.bind ?_ (fun _ => ?_)
set_option maxHeartbeats 8000000 in
set_option maxRecDepth 100000 in
theorem laws_FnExactCutRaws.calls (k : Nat) (A0_0 : Option Addr) (c0_0 : Nat) (l0_0 : List (S136)) (A1 : Option Addr) (c1 : Nat) (l1 : List (S73)) (a2 : Int) (a3 : Int) (r : Bool) (w : World) (hr0_0 : Kd.C k136 w A0_0 l0_0.length l0_0) (hc0_0 : l0_0.length ≤ c0_0) (hr1 : Kd.C k73 w A1 l1.length l1) (hc1 : l1.length ≤ c1) (h : laws_FnExactCutRaws.f k l0_0 l1 a2 a3 = some r) :
 Calls Try.prog 3 #[.agg #[.slice A0_0 l0_0.length c0_0], .slice A1 l1.length c1, .int .i64 a2, .int .i64 a3] w fun e w' => e = .returned (.bool r) ∧ Below w.heap.size w w' := by
 have hu24 := Try.underlying24; have hu30 := Try.underlying30; have HR0_0 := Aside0.mk hr0_0; have HC0_0 := Aside0.mk hc0_0; clear hr0_0 hc0_0; have HR1 := Aside0.mk hr1; have HC1 := Aside0.mk hc1; clear hr1 hc1; have HB := Aside0.mk (Below.refl w.heap.size w); have H : ((laws_szDisk.f k l0_0 1048576).bind fun t416 => (if t416 < 0 then (some true) else ((laws_szRawS.f k l1 t416).bind fun t417 => (if t417 < 0 then (some true) else ((laws_toDisk.f k l0_0).bind fun t418 => ((laws_toRawS.f k l1).bind fun t421 => ((spec_CutRaws.f k t418 t421 a2 a3).bind fun bt424 => ((laws_toDisk.f k l0_0).bind fun t429 => ((laws_toRawS.f k l1).bind fun t433 => ((impl_CutRaws.f k t429 t433 a2 a3).bind fun bt436 => ((laws_eqDisk.f k bt436.1 bt424.1).bind fun t441 => (if t441 = true then (laws_FnExactCutRaws.j0 k l1 a2 a3 bt424.2 t433 bt436.2 (bt436.2 != bt424.2) l0_0 bt424.1 t429 bt436.1) else (laws_FnExactCutRaws.j0 k l1 a2 a3 bt424.2 t433 bt436.2 true l0_0 bt424.1 t429 bt436.1))))))))))))) = some r := h; clear h; replace H := Option.bind_eq_some_iff.mp H; obtain ⟨t416, A50, H⟩ := H; replace H : (if t416 < 0 then (some true) else ((laws_szRawS.f k l1 t416).bind fun t417 => (if t417 < 0 then (some true) else ((laws_toDisk.f k l0_0).bind fun t418 => ((laws_toRawS.f k l1).bind fun t421 => ((spec_CutRaws.f k t418 t421 a2 a3).bind fun bt424 => ((laws_toDisk.f k l0_0).bind fun t429 => ((laws_toRawS.f k l1).bind fun t433 => ((impl_CutRaws.f k t429 t433 a2 a3).bind fun bt436 => ((laws_eqDisk.f k bt436.1 bt424.1).bind fun t441 => (if t441 = true then (laws_FnExactCutRaws.j0 k l1 a2 a3 bt424.2 t433 bt436.2 (bt436.2 != bt424.2) l0_0 bt424.1 t429 bt436.1) else (laws_FnExactCutRaws.j0 k l1 a2 a3 bt424.2 t433 bt436.2 true l0_0 bt424.1 t429 bt436.1)))))))))))) = some r := H; have A5 := Aside0.mk A50; clear A50; by_cases c6 : t416 < 0
 · rw [if_pos c6] at H; have c6b0 : decide (t416 < 0) = true := decide_eq_true c6; clear c6; obtain rfl := Option.some.inj H; go_enter Try.func3, Try.ntmps3
   go_wp2_with (first | ((with_reducible refine gate_dst (N := 4) rfl ?_); refine boxE (N := 4) (cs := #[.slice A0_0 l0_0.length c0_0]) (t := 24) (h := ?_); intro gb415 hg w7 hbox hb; have BK415 := Aside0.mk (hbox); have GW415 := Aside0.mk ((t3_ : w.heap.size ≤ gb415)); have GE415 := GW415; replace HB := bS t0_ hb; clear hb hbox hg; obtain ⟨hcz8_0, hfz8_0⟩ := ba1 BK415) | ((with_reducible refine gate_callee (f := 11) rfl ?_); refine goesL_ (some 23) rfl rfl Try.func11 (by kernel_rfl) rfl #[.agg #[.slice A0_0 l0_0.length c0_0], .int .i64 1048576] rfl t1_ ?_; (with_reducible refine (laws_szDisk.calls k _ _ l0_0 1048576 t416 _ ?side1 ?side2 A5.out).mono ?_); (case side1 => exact cB HR0_0 HB); (case side2 => exact HC0_0.out); rintro e w9 ⟨rfl, hb⟩; refine ⟨_, rfl, ?_⟩; replace BK415 := bkN BK415 hb; replace HB := bS t25_ hb; (try clear hb)))
   go_ret; exact ⟨by first | rfl | (simp [errW_none, errW_some] <;> rfl) | (simp [*, errW_none, errW_some] <;> rfl), t25_⟩
 · rw [if_neg c6] at H; have c6b0 : decide (t416 < 0) = false := decide_eq_false c6; clear c6; replace H := Option.bind_eq_some_iff.mp H; obtain ⟨t417, A100, H⟩ := H; replace H : (if t417 < 0 then (some true) else ((laws_toDisk.f k l0_0).bind fun t418 => ((laws_toRawS.f k l1).bind fun t421 => ((spec_CutRaws.f k t418 t421 a2 a3).bind fun bt424 => ((laws_toDisk.f k l0_0).bind fun t429 => ((laws_toRawS.f k l1).bind fun t433 => ((impl_CutRaws.f k t429 t433 a2 a3).bind fun bt436 => ((laws_eqDisk.f k bt436.1 bt424.1).bind fun t441 => (if t441 = true then (laws_FnExactCutRaws.j0 k l1 a2 a3 bt424.2 t433 bt436.2 (bt436.2 != bt424.2) l0_0 bt424.1 t429 bt436.1) else (laws_FnExactCutRaws.j0 k l1 a2 a3 bt424.2 t433 bt436.2 true l0_0 bt424.1 t429 bt436.1)))))))))) = some r := H; have A10 := Aside0.mk A100; clear A100; by_cases c11 : t417 < 0
   · rw [if_pos c11] at H; have c11b0 : decide (t417 < 0) = true := decide_eq_true c11; clear c11; obtain rfl := Option.some.inj H; go_enter Try.func3, Try.ntmps3
     go_wp2_with (first | ((with_reducible refine gate_dst (N := 4) rfl ?_); refine boxE (N := 4) (cs := #[.slice A0_0 l0_0.length c0_0]) (t := 24) (h := ?_); intro gb415 hg w12 hbox hb; have BK415 := Aside0.mk (hbox); have GW415 := Aside0.mk ((t3_ : w.heap.size ≤ gb415)); have GE415 := GW415; replace HB := bS t0_ hb; clear hb hbox hg; obtain ⟨hcz13_0, hfz13_0⟩ := ba1 BK415) | ((with_reducible refine gate_callee (f := 11) rfl ?_); refine goesL_ (some 23) rfl rfl Try.func11 (by kernel_rfl) rfl #[.agg #[.slice A0_0 l0_0.length c0_0], .int .i64 1048576] rfl t1_ ?_; (with_reducible refine (laws_szDisk.calls k _ _ l0_0 1048576 t416 _ ?side1 ?side2 A5.out).mono ?_); (case side1 => exact cB HR0_0 HB); (case side2 => exact HC0_0.out); rintro e w14 ⟨rfl, hb⟩; refine ⟨_, rfl, ?_⟩; replace BK415 := bkN BK415 hb; replace HB := bS t25_ hb; (try clear hb)) | ((with_reducible refine gate_callee (f := 12) rfl ?_); refine goesL_ (some 28) rfl rfl Try.func12 (by kernel_rfl) rfl #[.slice A1 l1.length c1, .int .i64 t416] rfl t1_ ?_; (with_reducible refine (laws_szRawS.calls k _ _ l1 t416 t417 _ ?side1 ?side2 A10.out).mono ?_); (case side1 => exact cB HR1 HB); (case side2 => exact HC1.out); rintro e w15 ⟨rfl, hb⟩; refine ⟨_, rfl, ?_⟩; replace BK415 := bkN BK415 hb; replace HB := bS t25_ hb; (try clear hb)))
     go_ret; exact ⟨by first | rfl | (simp [errW_none, errW_some] <;> rfl) | (simp [*, errW_none, errW_some] <;> rfl), t25_⟩
   · rw [if_neg c11] at H; have c11b0 : decide (t417 < 0) = false := decide_eq_false c11; clear c11; replace H := Option.bind_eq_some_iff.mp H; obtain ⟨t418, A160, H⟩ := H; replace H : ((laws_toRawS.f k l1).bind fun t421 => ((spec_CutRaws.f k t418 t421 a2 a3).bind fun bt424 => ((laws_toDisk.f k l0_0).bind fun t429 => ((laws_toRawS.f k l1).bind fun t433 => ((impl_CutRaws.f k t429 t433 a2 a3).bind fun bt436 => ((laws_eqDisk.f k bt436.1 bt424.1).bind fun t441 => (if t441 = true then (laws_FnExactCutRaws.j0 k l1 a2 a3 bt424.2 t433 bt436.2 (bt436.2 != bt424.2) l0_0 bt424.1 t429 bt436.1) else (laws_FnExactCutRaws.j0 k l1 a2 a3 bt424.2 t433 bt436.2 true l0_0 bt424.1 t429 bt436.1)))))))) = some r := H; have A16 := Aside0.mk A160; clear A160; replace H := Option.bind_eq_some_iff.mp H; obtain ⟨t421, A170, H⟩ := H; replace H : ((spec_CutRaws.f k t418 t421 a2 a3).bind fun bt424 => ((laws_toDisk.f k l0_0).bind fun t429 => ((laws_toRawS.f k l1).bind fun t433 => ((impl_CutRaws.f k t429 t433 a2 a3).bind fun bt436 => ((laws_eqDisk.f k bt436.1 bt424.1).bind fun t441 => (if t441 = true then (laws_FnExactCutRaws.j0 k l1 a2 a3 bt424.2 t433 bt436.2 (bt436.2 != bt424.2) l0_0 bt424.1 t429 bt436.1) else (laws_FnExactCutRaws.j0 k l1 a2 a3 bt424.2 t433 bt436.2 true l0_0 bt424.1 t429 bt436.1))))))) = some r := H; have A17 := Aside0.mk A170; clear A170; replace H := Option.bind_eq_some_iff.mp H; obtain ⟨⟨t424, t427⟩, A180, H⟩ := H; replace H : ((laws_toDisk.f k l0_0).bind fun t429 => ((laws_toRawS.f k l1).bind fun t433 => ((impl_CutRaws.f k t429 t433 a2 a3).bind fun bt436 => ((laws_eqDisk.f k bt436.1 t424).bind fun t441 => (if t441 = true then (laws_FnExactCutRaws.j0 k l1 a2 a3 t427 t433 bt436.2 (bt436.2 != t427) l0_0 t424 t429 bt436.1) else (laws_FnExactCutRaws.j0 k l1 a2 a3 t427 t433 bt436.2 true l0_0 t424 t429 bt436.1)))))) = some r := H; have A18 := Aside0.mk A180; clear A180; replace H := Option.bind_eq_some_iff.mp H; obtain ⟨t429, A190, H⟩ := H; replace H : ((laws_toRawS.f k l1).bind fun t433 => ((impl_CutRaws.f k t429 t433 a2 a3).bind fun bt436 => ((laws_eqDisk.f k bt436.1 t424).bind fun t441 => (if t441 = true then (laws_FnExactCutRaws.j0 k l1 a2 a3 t427 t433 bt436.2 (bt436.2 != t427) l0_0 t424 t429 bt436.1) else (laws_FnExactCutRaws.j0 k l1 a2 a3 t427 t433 bt436.2 true l0_0 t424 t429 bt436.1))))) = some r := H; have A19 := Aside0.mk A190; clear A190; replace H := Option.bind_eq_some_iff.mp H; obtain ⟨t433, A200, H⟩ := H; replace H : ((impl_CutRaws.f k t429 t433 a2 a3).bind fun bt436 => ((laws_eqDisk.f k bt436.1 t424).bind fun t441 => (if t441 = true then (laws_FnExactCutRaws.j0 k l1 a2 a3 t427 t433 bt436.2 (bt436.2 != t427) l0_0 t424 t429 bt436.1) else (laws_FnExactCutRaws.j0 k l1 a2 a3 t427 t433 bt436.2 true l0_0 t424 t429 bt436.1)))) = some r := H; have A20 := Aside0.mk A200; clear A200; replace H := Option.bind_eq_some_iff.mp H; obtain ⟨⟨t436, t439⟩, A210, H⟩ := H; replace H : ((laws_eqDisk.f k t436 t424).bind fun t441 => (if t441 = true then (laws_FnExactCutRaws.j0 k l1 a2 a3 t427 t433 t439 (t439 != t427) l0_0 t424 t429 t436) else (laws_FnExactCutRaws.j0 k l1 a2 a3 t427 t433 t439 true l0_0 t424 t429 t436))) = some r := H
     have A21 := Aside0.mk A210; clear A210; have HC22 := Aside0.mk H; clear H; go_enter Try.func3, Try.ntmps3
     go_upto_region 12 with (first | ((with_reducible refine gate_dst (N := 4) rfl ?_); refine boxE (N := 4) (cs := #[.slice A0_0 l0_0.length c0_0]) (t := 24) (h := ?_); intro gb415 hg w23 hbox hb; have BK415 := Aside0.mk (hbox); have GW415 := Aside0.mk ((t3_ : w.heap.size ≤ gb415)); have GE415 := GW415; replace HB := bS t0_ hb; clear hb hbox hg; obtain ⟨hcz24_0, hfz24_0⟩ := ba1 BK415) | ((with_reducible refine gate_callee (f := 11) rfl ?_); refine goesL_ (some 23) rfl rfl Try.func11 (by kernel_rfl) rfl #[.agg #[.slice A0_0 l0_0.length c0_0], .int .i64 1048576] rfl t1_ ?_; (with_reducible refine (laws_szDisk.calls k _ _ l0_0 1048576 t416 _ ?side1 ?side2 A5.out).mono ?_); (case side1 => exact cB HR0_0 HB); (case side2 => exact HC0_0.out); rintro e w25 ⟨rfl, hb⟩; refine ⟨_, rfl, ?_⟩; replace BK415 := bkN BK415 hb; replace HB := bS t25_ hb; (try clear hb)) | ((with_reducible refine gate_callee (f := 12) rfl ?_); refine goesL_ (some 28) rfl rfl Try.func12 (by kernel_rfl) rfl #[.slice A1 l1.length c1, .int .i64 t416] rfl t1_ ?_; (with_reducible refine (laws_szRawS.calls k _ _ l1 t416 t417 _ ?side1 ?side2 A10.out).mono ?_); (case side1 => exact cB HR1 HB); (case side2 => exact HC1.out); rintro e w26 ⟨rfl, hb⟩; refine ⟨_, rfl, ?_⟩; replace BK415 := bkN BK415 hb; replace HB := bS t25_ hb; (try clear hb); obtain ⟨hcz27_0, hfz27_0⟩ := ba1 BK415) | ((with_reducible refine gate_callee (f := 14) rfl ?_); refine goesL_ (some 33) rfl rfl Try.func14 (by kernel_rfl) rfl #[.agg #[.slice A0_0 l0_0.length c0_0]] rfl t1_ ?_; (with_reducible refine (laws_toDisk.calls k _ _ l0_0 t418 _ ?side1 ?side2 A16.out).mono ?_); (case side1 => exact cB HR0_0 HB); (case side2 => exact HC0_0.out); rintro e w28 ⟨v419, rfl, ho0, hb⟩; refine ⟨_, rfl, ?_⟩; have HO420 := Aside0.mk (Kd.R_lower ho0 (below_size t25_)); replace BK415 := bkN BK415 hb; replace HB := bS t25_ hb; (try clear hb); (try clear ho0)) | ((with_reducible refine gate_callee (f := 15) rfl ?_); refine goesL_ (some 35) rfl rfl Try.func15 (by kernel_rfl) rfl #[.slice A1 l1.length c1] rfl t1_ ?_; (with_reducible refine (laws_toRawS.calls k _ _ l1 t421 _ ?side1 ?side2 A17.out).mono ?_); (case side1 => exact cB HR1 HB); (case side2 => exact HC1.out); rintro e w29 ⟨v422, rfl, ho0, hb⟩; refine ⟨_, rfl, ?_⟩; replace HO420 := Aside0.mk (Kd.R_below t64_ hb); have HO423 := Aside0.mk (Kd.R_lower ho0 (below_size t25_)); replace BK415 := bkN BK415 hb; replace HB := bS t25_ hb; (try clear hb); (try clear ho0); obtain ⟨Ao30, co30, eo30⟩ := Kd.R_slice HO420.out; subst eo30; obtain ⟨Ao31, co31, eo31⟩ := Kd.R_slice HO423.out; subst eo31) | ((with_reducible refine gate_callee (f := 13) rfl ?_); refine goesL_ (some 38) rfl rfl Try.func13 (by kernel_rfl) rfl #[.agg #[.slice Ao30 t418.length co30], .slice Ao31 t421.length co31, .int .i64 a2, .int .i64 a3] rfl t1_ ?_; (with_reducible refine (spec_CutRaws.calls k _ _ t418 _ _ t421 a2 a3 t424 t427 _ ?side1 ?side2 ?side3 ?side4 A18.out).mono ?_); (case side1 => repeat (first | exact (Kd.R_reads' HO420.out).2.2 | (with_reducible refine Kd.C_alloc ?_ _) | (with_reducible refine Kd.C_drewN ?_ _) | (with_reducible refine Kd.C_drew ?_))); (case side2 => exact (Kd.R_reads' HO420.out).2.1); (case side3 => repeat (first | exact (Kd.R_reads' HO423.out).2.2 | (with_reducible refine Kd.C_alloc ?_ _) | (with_reducible refine Kd.C_drewN ?_ _) | (with_reducible refine Kd.C_drew ?_))); (case side4 => exact (Kd.R_reads' HO423.out).2.1); rintro e w32 ⟨v425, rfl, ho0, hb⟩; refine ⟨_, rfl, ?_⟩; replace HO423 := Aside0.mk (Kd.R_below t80_ hb); have HO426 := Aside0.mk (Kd.R_lower (Kd.R_new' ho0 (Kd.R_lt t64_)) (below_size t25_)); replace HO420 := Aside0.mk (Kd.R_elder' t64_ (Kd.R_base ho0) hb); replace BK415 := bkN BK415 hb; replace HB := bS t25_ hb; (try clear hb); (try clear ho0)) | ((with_reducible refine gate_dst (N := 10) rfl ?_); refine boxE (N := 10) (cs := #[.slice none 0 0]) (t := 30) (h := ?_); intro gb428 hg w33 hbox hb; replace HO420 := Aside0.mk (Kd.R_below t64_ hb); replace HO423 := Aside0.mk (Kd.R_below t80_ hb); replace HO426 := Aside0.mk (Kd.R_below t81_ hb); have BK428 := Aside0.mk (hbox); have GW428 := Aside0.mk ((by rw [hg]; exact (below_size t25_) : w.heap.size ≤ gb428)); have GE428 := Aside0.mk ((by rw [hg]; exact (below_size t25_) : w.heap.size ≤ gb428)); replace HB := bS t25_ hb; have NB415_428 := nbL BK415 hg; have NB428_415 := nbG BK415 hg; replace BK415 := bkN BK415 hb; clear hb hbox hg; obtain ⟨Ao34, co34, eo34⟩ := Kd.R_slice HO426.out; subst eo34; have hnb35 := NB428_415.out; have hnc35 := NB415_428.out; obtain ⟨hcz36_0, hfz36_0⟩ := ba1 BK428; obtain ⟨hcz37_0, hfz37_0⟩ := ba1 BK415) | ((with_reducible refine gate_callee (f := 14) rfl ?_); refine goesL_ (some 42) rfl rfl Try.func14 (by kernel_rfl) rfl #[.agg #[.slice A0_0 l0_0.length c0_0]] rfl t1_ ?_; (with_reducible refine (laws_toDisk.calls k _ _ l0_0 t429 _ ?side1 ?side2 A19.out).mono ?_); (case side1 => exact Kd.C_below HR0_0.out t53_); (case side2 => exact HC0_0.out); rintro e w38 ⟨v430, rfl, ho0, hb⟩; refine ⟨_, rfl, ?_⟩; replace HO423 := Aside0.mk (Kd.R_below (rF HO423 BK428) hb); have HO431 := Aside0.mk (Kd.R_lower (Kd.R_new' (Kd.R_new' ho0 (Kd.R_lt (rF HO420 BK428))) (Kd.R_lt (rF HO426 BK428))) (below_size t53_)); replace HO420 := Aside0.mk (Kd.R_elder' (rF HO420 BK428) (Kd.R_base ho0) hb); replace HO426 := Aside0.mk (Kd.R_elder' (rF HO426 BK428) (Kd.R_base ho0) hb); replace BK415 := bkF BK415 NB415_428 hb; replace BK428 := Aside0.mk (blk_below (g := gb428) (o := .cells #[.slice Ao34 t424.length co34] 30 (0, 0)) (by (with_reducible repeat (first | refine blk_drewN ?_ _ | refine blk_drew ?_ | refine blk_alloc ?_ _)); refine blk_put (cs := #[.slice none 0 0]) ?_ 0 _ rfl; (with_reducible repeat (first | refine blk_drewN ?_ _ | refine blk_drew ?_ | refine blk_alloc ?_ _)); exact BK428.out) hb); replace HB := bS t53_ hb; (try clear hb); (try clear ho0)) | ((with_reducible refine gate_dst (N := 12) rfl ?_); refine boxE (N := 12) (cs := #[.slice none 0 0]) (t := 30) (h := ?_); intro gb432 hg w39 hbox hb; replace HO420 := Aside0.mk (Kd.R_below t64_ hb); replace HO423 := Aside0.mk (Kd.R_below t80_ hb); replace HO426 := Aside0.mk (Kd.R_below t81_ hb); replace HO431 := Aside0.mk (Kd.R_below t92_ hb); have BK432 := Aside0.mk (hbox); have GW432 := Aside0.mk ((by rw [hg]; exact (below_size t53_) : w.heap.size ≤ gb432)); have GE432 := Aside0.mk ((by rw [hg]; exact (below_size t53_) : w.heap.size ≤ gb432)); replace HB := bS t53_ hb; have NB415_432 := nbL BK415 hg; have NB432_415 := nbG BK415 hg; replace BK415 := bkN BK415 hb; have NB428_432 := nbL BK428 hg; have NB432_428 := nbG BK428 hg; replace BK428 := bkN BK428 hb; clear hb hbox hg; obtain ⟨Ao40, co40, eo40⟩ := Kd.R_slice HO431.out; subst eo40; have hnb41 := NB432_415.out; have hnc41 := NB415_432.out; have hnb42 := NB432_428.out; have hnc42 := NB428_432.out; obtain ⟨hcz43_0, hfz43_0⟩ := ba1 BK432) | ((with_reducible refine gate_callee (f := 15) rfl ?_); refine goesL_ (some 44) rfl rfl Try.func15 (by kernel_rfl) rfl #[.slice A1 l1.length c1] rfl t1_ ?_; (with_reducible refine (laws_toRawS.calls k _ _ l1 t433 _ ?side1 ?side2 A20.out).mono ?_); (case side1 => exact Kd.C_below HR1.out t38_); (case side2 => exact HC1.out); rintro e w44 ⟨v434, rfl, ho0, hb⟩; refine ⟨_, rfl, ?_⟩; replace HO420 := Aside0.mk (Kd.R_below (rF HO420 BK432) hb); replace HO426 := Aside0.mk (Kd.R_below (rF HO426 BK432) hb); replace HO431 := Aside0.mk (Kd.R_below (rF HO431 BK432) hb); have HO435 := Aside0.mk (Kd.R_lower (Kd.R_new' ho0 (Kd.R_lt (rF HO423 BK432))) (below_size t38_)); replace HO423 := Aside0.mk (Kd.R_elder' (rF HO423 BK432) (Kd.R_base ho0) hb); replace BK415 := bkF BK415 NB415_432 hb; replace BK428 := bkF BK428 NB428_432 hb; replace BK432 := Aside0.mk (blk_below (g := gb432) (o := .cells #[.slice Ao40 t429.length co40] 30 (0, 0)) (by (with_reducible repeat (first | refine blk_drewN ?_ _ | refine blk_drew ?_ | refine blk_alloc ?_ _)); refine blk_put (cs := #[.slice none 0 0]) ?_ 0 _ rfl; (with_reducible repeat (first | refine blk_drewN ?_ _ | refine blk_drew ?_ | refine blk_alloc ?_ _)); exact BK432.out) hb); replace HB := bS t38_ hb; (try clear hb); (try clear ho0); obtain ⟨hcz45_0, hfz45_0⟩ := ba1 BK432; obtain ⟨Ao46, co46, eo46⟩ := Kd.R_slice HO435.out; subst eo46) | ((with_reducible refine gate_callee (f := 16) rfl ?_); refine goesL_ (some 50) rfl rfl Try.func16 (by kernel_rfl) rfl #[.agg #[.slice Ao40 t429.length co40], .slice Ao46 t433.length co46, .int .i64 a2, .int .i64 a3] rfl t1_ ?_; (with_reducible refine (impl_CutRaws.calls k _ _ t429 _ _ t433 a2 a3 t436 t439 _ ?side1 ?side2 ?side3 ?side4 A21.out).mono ?_); (case side1 => repeat (first | exact (Kd.R_reads' HO431.out).2.2 | (with_reducible refine Kd.C_alloc ?_ _) | (with_reducible refine Kd.C_drewN ?_ _) | (with_reducible refine Kd.C_drew ?_))); (case side2 => exact (Kd.R_reads' HO431.out).2.1); (case side3 => repeat (first | exact (Kd.R_reads' HO435.out).2.2 | (with_reducible refine Kd.C_alloc ?_ _) | (with_reducible refine Kd.C_drewN ?_ _) | (with_reducible refine Kd.C_drew ?_))); (case side4 => exact (Kd.R_reads' HO435.out).2.1); rintro e w47 ⟨v437, rfl, ho0, hb⟩; refine ⟨_, rfl, ?_⟩; replace HO423 := Aside0.mk (Kd.R_below t80_ hb); replace HO435 := Aside0.mk (Kd.R_below (by (with_reducible repeat (first | apply Kd.R_alloc | apply Kd.R_drewN | apply Kd.R_drew)); exact HO435.out) hb); have HO438 := Aside0.mk (Kd.R_lower (Kd.R_new' (Kd.R_new' (Kd.R_new' ho0 (Kd.R_lt t64_)) (Kd.R_lt t81_)) (Kd.R_lt t92_)) (below_size t38_)); replace HO420 := Aside0.mk (Kd.R_elder' t64_ (Kd.R_base ho0) hb); replace HO426 := Aside0.mk (Kd.R_elder' t81_ (Kd.R_base ho0) hb); replace HO431 := Aside0.mk (Kd.R_elder' t92_ (Kd.R_base ho0) hb); replace BK415 := bkN BK415 hb; replace BK428 := bkN BK428 hb; replace BK432 := bkN BK432 hb; replace HB := bS t38_ hb; (try clear hb); (try clear ho0)) | ((with_reducible refine gate_dst (N := 14) rfl ?_); refine boxE (N := 14) (cs := #[.slice none 0 0]) (t := 30) (h := ?_); intro gb440 hg w48 hbox hb; replace HO420 := Aside0.mk (Kd.R_below t64_ hb); replace HO423 := Aside0.mk (Kd.R_below t80_ hb); replace HO426 := Aside0.mk (Kd.R_below t81_ hb); replace HO431 := Aside0.mk (Kd.R_below t92_ hb); replace HO435 := Aside0.mk (Kd.R_below (by (with_reducible repeat (first | apply Kd.R_alloc | apply Kd.R_drewN | apply Kd.R_drew)); exact HO435.out) hb); replace HO438 := Aside0.mk (Kd.R_below (by (with_reducible repeat (first | apply Kd.R_alloc | apply Kd.R_drewN | apply Kd.R_drew)); exact HO438.out) hb); have BK440 := Aside0.mk (hbox); have GW440 := Aside0.mk ((by rw [hg]; exact (below_size t38_) : w.heap.size ≤ gb440)); have GE440 := Aside0.mk ((by rw [hg]; exact (below_size t38_) : w.heap.size ≤ gb440)); replace HB := bS t38_ hb; have NB415_440 := nbL BK415 hg; have NB440_415 := nbG BK415 hg; replace BK415 := bkN BK415 hb; have NB428_440 := nbL BK428 hg; have NB440_428 := nbG BK428 hg; replace BK428 := bkN BK428 hb; have NB432_440 := nbL BK432 hg; have NB440_432 := nbG BK432 hg; replace BK432 := bkN BK432 hb; clear hb hbox hg; obtain ⟨Ao49, co49, eo49⟩ := Kd.R_slice HO438.out; subst eo49; have hnb50 := NB440_415.out; have hnc50 := NB415_440.out; have hnb51 := NB440_428.out; have hnc51 := NB428_440.out; have hnb52 := NB440_432.out; have hnc52 := NB432_440.out; obtain ⟨hcz53_0, hfz53_0⟩ := ba1 BK440))
     (try simp only [Act.put, List.setIfInBounds_toArray, List.set_cons_zero, List.set_cons_succ])
     go_cut [61] (fun v61 wc => ∃ (kq : Nat) (x61_21 : Bool), v61 = .bool x61_21 ∧ Aside0 (laws_FnExactCutRaws.j0 kq l1 a2 a3 t427 t433 t439 x61_21 l0_0 t424 t429 t436 = some r) ∧ Aside0 (kq ≤ k) ∧ Aside0 (Kd.R k65 65 wc w.heap.size (fun _ => True) (.slice Ao46 t433.length co46) t433) ∧ Aside0 (Kd.R k71 71 wc w.heap.size (fun k_ => some k_ ≠ ((.slice Ao40 t429.length co40) : Value).ownBlock ∧ some k_ ≠ ((.slice Ao49 t436.length co49) : Value).ownBlock) (.slice Ao34 t424.length co34) t424) ∧ Aside0 (Kd.R k71 71 wc w.heap.size (fun k_ => some k_ ≠ ((.slice Ao34 t424.length co34) : Value).ownBlock ∧ some k_ ≠ ((.slice Ao49 t436.length co49) : Value).ownBlock) (.slice Ao40 t429.length co40) t429) ∧ Aside0 (Kd.R k71 71 wc w.heap.size (fun k_ => some k_ ≠ ((.slice Ao34 t424.length co34) : Value).ownBlock ∧ some k_ ≠ ((.slice Ao40 t429.length co40) : Value).ownBlock) (.slice Ao49 t436.length co49) t436) ∧ Aside0 (wc.heap[gb415]? = some (.cells #[(.slice A0_0 l0_0.length c0_0)] 24 (0, 0))) ∧ Aside0 (wc.heap[gb428]? = some (.cells #[(.slice Ao34 t424.length co34)] 30 (0, 0))) ∧ Aside0 (wc.heap[gb432]? = some (.cells #[(.slice Ao40 t429.length co40)] 30 (0, 0))) ∧ Aside0 (wc.heap[gb440]? = some (.cells #[(.slice Ao49 t436.length co49)] 30 (0, 0))) ∧ Aside0 (Below w.heap.size w wc))
     case first =>
      have H := HC22.out; clear HC22; replace H := Option.bind_eq_some_iff.mp H; obtain ⟨t441, A540, H⟩ := H; replace H : (if t441 = true then (laws_FnExactCutRaws.j0 k l1 a2 a3 t427 t433 t439 (t439 != t427) l0_0 t424 t429 t436) else (laws_FnExactCutRaws.j0 k l1 a2 a3 t427 t433 t439 true l0_0 t424 t429 t436)) = some r := H; have A54 := Aside0.mk A540; clear A540; by_cases c55 : t441 = true
      · subst c55; have H1 : (laws_FnExactCutRaws.j0 k l1 a2 a3 t427 t433 t439 (t439 != t427) l0_0 t424 t429 t436) = some r := by rw [if_pos rfl] at H; exact H
        clear H; have H := H1; clear H1; have H' := Aside0.mk H; clear H; have hnb56 := NB440_415.out; have hnc56 := NB415_440.out; have hnb57 := NB440_428.out; have hnc57 := NB428_440.out; have hnb58 := NB440_432.out; have hnc58 := NB432_440.out; obtain ⟨hcz59_0, hfz59_0⟩ := ba1 BK440; have hnb60 := NB428_415.out; have hnc60 := NB415_428.out; have hnb61 := NB428_432.out; have hnc61 := NB432_428.out; obtain ⟨hcz62_0, hfz62_0⟩ := ba1 BK428
        go_wp2_with (first | ((with_reducible refine gate_callee (f := 17) rfl ?_); refine goesL_ (some 55) rfl rfl Try.func17 (by kernel_rfl) rfl #[.agg #[.slice Ao49 t436.length co49], .agg #[.slice Ao34 t424.length co34]] rfl t1_ ?_; (with_reducible refine (laws_eqDisk.calls k _ _ t436 _ _ t424 true _ ?side1 ?side2 ?side3 ?side4 A54.out).mono ?_); (case side1 => refine (Kd.R_reads' (e := 71) (base := w.heap.size) (ok := fun k_ => (((True ∧ some k_ ≠ (.slice Ao30 t418.length co30 : Value).ownBlock) ∧ some k_ ≠ (.slice Ao34 t424.length co34 : Value).ownBlock) ∧ some k_ ≠ (.slice Ao40 t429.length co40 : Value).ownBlock)) (n := t436.length) (c := co49) ?_).2.2; exact (rF HO438 BK440)); (case side2 => exact (Kd.R_reads' HO438.out).2.1); (case side3 => refine (Kd.R_reads' (e := 71) (base := w.heap.size) (ok := fun k_ => (((True ∧ some k_ ≠ (.slice Ao30 t418.length co30 : Value).ownBlock) ∧ some k_ ≠ (.slice Ao40 t429.length co40 : Value).ownBlock) ∧ some k_ ≠ (.slice Ao49 t436.length co49 : Value).ownBlock)) (n := t424.length) (c := co34) ?_).2.2; exact (rF HO426 BK440)); (case side4 => exact (Kd.R_reads' HO426.out).2.1); rintro e w63 ⟨rfl, hb⟩; refine ⟨_, rfl, ?_⟩; replace HO420 := Aside0.mk (Kd.R_below (rF HO420 BK440) hb); replace HO423 := Aside0.mk (Kd.R_below (rF HO423 BK440) hb); replace HO426 := Aside0.mk (Kd.R_below (rF HO426 BK440) hb); replace HO431 := Aside0.mk (Kd.R_below (rF HO431 BK440) hb); replace HO435 := Aside0.mk (Kd.R_below (rF HO435 BK440) hb); replace HO438 := Aside0.mk (Kd.R_below (rF HO438 BK440) hb); replace BK415 := bkF BK415 NB415_440 hb; replace BK428 := bkF BK428 NB428_440 hb; replace BK432 := bkF BK432 NB432_440 hb; replace BK440 := Aside0.mk (blk_below (g := gb440) (o := .cells #[.slice Ao49 t436.length co49] 30 (0, 0)) (by (with_reducible repeat (first | refine blk_drewN ?_ _ | refine blk_drew ?_ | refine blk_alloc ?_ _)); refine blk_put (cs := #[.slice none 0 0]) ?_ 0 _ rfl; (with_reducible repeat (first | refine blk_drewN ?_ _ | refine blk_drew ?_ | refine blk_alloc ?_ _)); exact BK440.out) hb); replace HB := bS t15_ hb; (try clear hb)))
        go_meet
        case rel => exact ⟨_, ((t439 != t427)), t20_, H', ⟨by first | omega | exact Nat.le_refl _⟩, ⟨by (with_reducible repeat (first | apply Kd.R_alloc | apply Kd.R_drewN | apply Kd.R_drew)); exact Kd.R_mono HO435.out (fun _ hk => trivial)⟩, ⟨by (with_reducible repeat (first | apply Kd.R_alloc | apply Kd.R_drewN | apply Kd.R_drew)); exact Kd.R_mono HO426.out (fun _ hk => ⟨hk.1.2, hk.2⟩)⟩, ⟨by (with_reducible repeat (first | apply Kd.R_alloc | apply Kd.R_drewN | apply Kd.R_drew)); exact Kd.R_mono HO431.out (fun _ hk => ⟨hk.1.2, hk.2⟩)⟩, ⟨by (with_reducible repeat (first | apply Kd.R_alloc | apply Kd.R_drewN | apply Kd.R_drew)); exact Kd.R_mono HO438.out (fun _ hk => ⟨hk.1.2, hk.2⟩)⟩, ⟨by (with_reducible repeat (first | refine blk_drewN ?_ _ | refine blk_drew ?_ | refine blk_alloc ?_ _)); exact BK415.out⟩, ⟨by (with_reducible repeat (first | refine blk_drewN ?_ _ | refine blk_drew ?_ | refine blk_alloc ?_ _)); exact BK428.out⟩, ⟨by (with_reducible repeat (first | refine blk_drewN ?_ _ | refine blk_drew ?_ | refine blk_alloc ?_ _)); exact BK432.out⟩, ⟨by (with_reducible repeat (first | refine blk_drewN ?_ _ | refine blk_drew ?_ | refine blk_alloc ?_ _)); exact BK440.out⟩, ⟨t15_⟩⟩
      · replace c55 := Bool.eq_false_iff.mpr c55; subst c55; have H1 : (laws_FnExactCutRaws.j0 k l1 a2 a3 t427 t433 t439 true l0_0 t424 t429 t436) = some r := by rw [if_neg (show ¬ (false = true) by decide)] at H; exact H
        clear H; have H := H1; clear H1; have H' := Aside0.mk H; clear H; have hnb64 := NB440_415.out; have hnc64 := NB415_440.out; have hnb65 := NB440_428.out; have hnc65 := NB428_440.out; have hnb66 := NB440_432.out; have hnc66 := NB432_440.out; obtain ⟨hcz67_0, hfz67_0⟩ := ba1 BK440; have hnb68 := NB428_415.out; have hnc68 := NB415_428.out; have hnb69 := NB428_432.out; have hnc69 := NB432_428.out; obtain ⟨hcz70_0, hfz70_0⟩ := ba1 BK428
        go_wp2_with (first | ((with_reducible refine gate_callee (f := 17) rfl ?_); refine goesL_ (some 55) rfl rfl Try.func17 (by kernel_rfl) rfl #[.agg #[.slice Ao49 t436.length co49], .agg #[.slice Ao34 t424.length co34]] rfl t1_ ?_; (with_reducible refine (laws_eqDisk.calls k _ _ t436 _ _ t424 false _ ?side1 ?side2 ?side3 ?side4 A54.out).mono ?_); (case side1 => refine (Kd.R_reads' (e := 71) (base := w.heap.size) (ok := fun k_ => (((True ∧ some k_ ≠ (.slice Ao30 t418.length co30 : Value).ownBlock) ∧ some k_ ≠ (.slice Ao34 t424.length co34 : Value).ownBlock) ∧ some k_ ≠ (.slice Ao40 t429.length co40 : Value).ownBlock)) (n := t436.length) (c := co49) ?_).2.2; exact (rF HO438 BK440)); (case side2 => exact (Kd.R_reads' HO438.out).2.1); (case side3 => refine (Kd.R_reads' (e := 71) (base := w.heap.size) (ok := fun k_ => (((True ∧ some k_ ≠ (.slice Ao30 t418.length co30 : Value).ownBlock) ∧ some k_ ≠ (.slice Ao40 t429.length co40 : Value).ownBlock) ∧ some k_ ≠ (.slice Ao49 t436.length co49 : Value).ownBlock)) (n := t424.length) (c := co34) ?_).2.2; exact (rF HO426 BK440)); (case side4 => exact (Kd.R_reads' HO426.out).2.1); rintro e w71 ⟨rfl, hb⟩; refine ⟨_, rfl, ?_⟩; replace HO420 := Aside0.mk (Kd.R_below (rF HO420 BK440) hb); replace HO423 := Aside0.mk (Kd.R_below (rF HO423 BK440) hb); replace HO426 := Aside0.mk (Kd.R_below (rF HO426 BK440) hb); replace HO431 := Aside0.mk (Kd.R_below (rF HO431 BK440) hb); replace HO435 := Aside0.mk (Kd.R_below (rF HO435 BK440) hb); replace HO438 := Aside0.mk (Kd.R_below (rF HO438 BK440) hb); replace BK415 := bkF BK415 NB415_440 hb; replace BK428 := bkF BK428 NB428_440 hb; replace BK432 := bkF BK432 NB432_440 hb; replace BK440 := Aside0.mk (blk_below (g := gb440) (o := .cells #[.slice Ao49 t436.length co49] 30 (0, 0)) (by (with_reducible repeat (first | refine blk_drewN ?_ _ | refine blk_drew ?_ | refine blk_alloc ?_ _)); refine blk_put (cs := #[.slice none 0 0]) ?_ 0 _ rfl; (with_reducible repeat (first | refine blk_drewN ?_ _ | refine blk_drew ?_ | refine blk_alloc ?_ _)); exact BK440.out) hb); replace HB := bS t15_ hb; (try clear hb)))
        go_meet
        case rel => exact ⟨_, (true), t20_, H', ⟨by first | omega | exact Nat.le_refl _⟩, ⟨by (with_reducible repeat (first | apply Kd.R_alloc | apply Kd.R_drewN | apply Kd.R_drew)); exact Kd.R_mono HO435.out (fun _ hk => trivial)⟩, ⟨by (with_reducible repeat (first | apply Kd.R_alloc | apply Kd.R_drewN | apply Kd.R_drew)); exact Kd.R_mono HO426.out (fun _ hk => ⟨hk.1.2, hk.2⟩)⟩, ⟨by (with_reducible repeat (first | apply Kd.R_alloc | apply Kd.R_drewN | apply Kd.R_drew)); exact Kd.R_mono HO431.out (fun _ hk => ⟨hk.1.2, hk.2⟩)⟩, ⟨by (with_reducible repeat (first | apply Kd.R_alloc | apply Kd.R_drewN | apply Kd.R_drew)); exact Kd.R_mono HO438.out (fun _ hk => ⟨hk.1.2, hk.2⟩)⟩, ⟨by (with_reducible repeat (first | refine blk_drewN ?_ _ | refine blk_drew ?_ | refine blk_alloc ?_ _)); exact BK415.out⟩, ⟨by (with_reducible repeat (first | refine blk_drewN ?_ _ | refine blk_drew ?_ | refine blk_alloc ?_ _)); exact BK428.out⟩, ⟨by (with_reducible repeat (first | refine blk_drewN ?_ _ | refine blk_drew ?_ | refine blk_alloc ?_ _)); exact BK432.out⟩, ⟨by (with_reducible repeat (first | refine blk_drewN ?_ _ | refine blk_drew ?_ | refine blk_alloc ?_ _)); exact BK440.out⟩, ⟨t15_⟩⟩
     case rest =>
      clear HC22
      try clear c1
      try clear p2
      try clear c3
      try clear c4
      try clear c5
      try clear c6
      try clear c6b0
      try clear c11
      try clear c11b0
      try clear c12
      try clear c13
      try clear c14
      try clear c15
      try clear c16
      try clear c17
      try clear c35
      try clear c41
      try clear c42
      try clear c50
      try clear c51
      try clear c52
      try clear c55
      try clear c56
      try clear c57
      try clear c58
      try clear c60
      try clear c61
      try clear c64
      try clear c65
      try clear c66
      try clear c68
      try clear c69
      try clear hcz13_0
      try clear hcz24_0
      try clear hcz27_0
      try clear hcz36_0
      try clear hcz37_0
      try clear hcz43_0
      try clear hcz45_0
      try clear hcz53_0
      try clear hcz59_0
      try clear hcz62_0
      try clear hcz67_0
      try clear hcz70_0
      try clear hcz8_0
      try clear hfz13_0
      try clear hfz24_0
      try clear hfz27_0
      try clear hfz36_0
      try clear hfz37_0
      try clear hfz43_0
      try clear hfz45_0
      try clear hfz53_0
      try clear hfz59_0
      try clear hfz62_0
      try clear hfz67_0
      try clear hfz70_0
      try clear hfz8_0
      obtain ⟨kq, x61_21, rfl, HA, HJ21, HO_13, HO_429000, HO_433000, HO_441000, BK415, BK428, BK432, BK440, HB⟩ := hcut
      cases kq with
      | zero => exact absurd HA.out (by simp [laws_FnExactCutRaws.j0])
      | succ kj21 =>
       have H := HA.out; clear HA; simp only [laws_FnExactCutRaws.j0] at H; by_cases c72 : x61_21 = true
       · subst c72; have H1 : (none) = some r := by rw [if_pos rfl] at H; exact H
         clear H; have H := H1; clear H1; exact absurd H (by simp)
       · replace c72 := Bool.eq_false_iff.mpr c72; subst c72; have H1 : ((laws_toDisk.f kj21 l0_0).bind fun t442 => ((laws_eqDisk.f kj21 t429 t442).bind fun t445 => (if t445 = true then ((laws_toRawS.f kj21 l1).bind fun t446 => ((laws_eqRawS.f kj21 t433 t446).bind fun t449 => (if t449 = true then ((laws_markDisk.f kj21 t429 1).bind fun bt450 => ((laws_markRawS.f kj21 t433 bt450.1).bind fun bt452 => (if bt452.1 < 0 then (laws_FnExactCutRaws.j1 kj21 l1 a2 a3 t427 true l0_0 t424 t436) else ((laws_eqDisk.f kj21 t436 t424).bind fun t454 => (if t454 = true then (laws_FnExactCutRaws.j1 kj21 l1 a2 a3 t427 (t439 != t427) l0_0 t424 t436) else (laws_FnExactCutRaws.j1 kj21 l1 a2 a3 t427 true l0_0 t424 t436)))))) else (none)))) else (none)))) = some r := by rw [if_neg (show ¬ (false = true) by decide)] at H; exact H
         clear H; have H := H1; clear H1; replace H := Option.bind_eq_some_iff.mp H; obtain ⟨t442, A730, H⟩ := H; replace H : ((laws_eqDisk.f kj21 t429 t442).bind fun t445 => (if t445 = true then ((laws_toRawS.f kj21 l1).bind fun t446 => ((laws_eqRawS.f kj21 t433 t446).bind fun t449 => (if t449 = true then ((laws_markDisk.f kj21 t429 1).bind fun bt450 => ((laws_markRawS.f kj21 t433 bt450.1).bind fun bt452 => (if bt452.1 < 0 then (laws_FnExactCutRaws.j1 kj21 l1 a2 a3 t427 true l0_0 t424 t436) else ((laws_eqDisk.f kj21 t436 t424).bind fun t454 => (if t454 = true then (laws_FnExactCutRaws.j1 kj21 l1 a2 a3 t427 (t439 != t427) l0_0 t424 t436) else (laws_FnExactCutRaws.j1 kj21 l1 a2 a3 t427 true l0_0 t424 t436)))))) else (none)))) else (none))) = some r := H; have A73 := Aside0.mk A730; clear A730; replace H := Option.bind_eq_some_iff.mp H; obtain ⟨t445, A740, H⟩ := H; replace H : (if t445 = true then ((laws_toRawS.f kj21 l1).bind fun t446 => ((laws_eqRawS.f kj21 t433 t446).bind fun t449 => (if t449 = true then ((laws_markDisk.f kj21 t429 1).bind fun bt450 => ((laws_markRawS.f kj21 t433 bt450.1).bind fun bt452 => (if bt452.1 < 0 then (laws_FnExactCutRaws.j1 kj21 l1 a2 a3 t427 true l0_0 t424 t436) else ((laws_eqDisk.f kj21 t436 t424).bind fun t454 => (if t454 = true then (laws_FnExactCutRaws.j1 kj21 l1 a2 a3 t427 (t439 != t427) l0_0 t424 t436) else (laws_FnExactCutRaws.j1 kj21 l1 a2 a3 t427 true l0_0 t424 t436)))))) else (none)))) else (none)) = some r := H; have A74 := Aside0.mk A740; clear A740; by_cases c75 : t445 = true
         · subst c75; have H1 : ((laws_toRawS.f kj21 l1).bind fun t446 => ((laws_eqRawS.f kj21 t433 t446).bind fun t449 => (if t449 = true then ((laws_markDisk.f kj21 t429 1).bind fun bt450 => ((laws_markRawS.f kj21 t433 bt450.1).bind fun bt452 => (if bt452.1 < 0 then (laws_FnExactCutRaws.j1 kj21 l1 a2 a3 t427 true l0_0 t424 t436) else ((laws_eqDisk.f kj21 t436 t424).bind fun t454 => (if t454 = true then (laws_FnExactCutRaws.j1 kj21 l1 a2 a3 t427 (t439 != t427) l0_0 t424 t436) else (laws_FnExactCutRaws.j1 kj21 l1 a2 a3 t427 true l0_0 t424 t436)))))) else (none)))) = some r := by rw [if_pos rfl] at H; exact H
           clear H; have H := H1; clear H1; replace H := Option.bind_eq_some_iff.mp H; obtain ⟨t446, A760, H⟩ := H; replace H : ((laws_eqRawS.f kj21 t433 t446).bind fun t449 => (if t449 = true then ((laws_markDisk.f kj21 t429 1).bind fun bt450 => ((laws_markRawS.f kj21 t433 bt450.1).bind fun bt452 => (if bt452.1 < 0 then (laws_FnExactCutRaws.j1 kj21 l1 a2 a3 t427 true l0_0 t424 t436) else ((laws_eqDisk.f kj21 t436 t424).bind fun t454 => (if t454 = true then (laws_FnExactCutRaws.j1 kj21 l1 a2 a3 t427 (t439 != t427) l0_0 t424 t436) else (laws_FnExactCutRaws.j1 kj21 l1 a2 a3 t427 true l0_0 t424 t436)))))) else (none))) = some r := H; have A76 := Aside0.mk A760; clear A760; replace H := Option.bind_eq_some_iff.mp H; obtain ⟨t449, A770, H⟩ := H; replace H : (if t449 = true then ((laws_markDisk.f kj21 t429 1).bind fun bt450 => ((laws_markRawS.f kj21 t433 bt450.1).bind fun bt452 => (if bt452.1 < 0 then (laws_FnExactCutRaws.j1 kj21 l1 a2 a3 t427 true l0_0 t424 t436) else ((laws_eqDisk.f kj21 t436 t424).bind fun t454 => (if t454 = true then (laws_FnExactCutRaws.j1 kj21 l1 a2 a3 t427 (t439 != t427) l0_0 t424 t436) else (laws_FnExactCutRaws.j1 kj21 l1 a2 a3 t427 true l0_0 t424 t436)))))) else (none)) = some r := H; have A77 := Aside0.mk A770; clear A770; by_cases c78 : t449 = true
           · subst c78; have H1 : ((laws_markDisk.f kj21 t429 1).bind fun bt450 => ((laws_markRawS.f kj21 t433 bt450.1).bind fun bt452 => (if bt452.1 < 0 then (laws_FnExactCutRaws.j1 kj21 l1 a2 a3 t427 true l0_0 t424 t436) else ((laws_eqDisk.f kj21 t436 t424).bind fun t454 => (if t454 = true then (laws_FnExactCutRaws.j1 kj21 l1 a2 a3 t427 (t439 != t427) l0_0 t424 t436) else (laws_FnExactCutRaws.j1 kj21 l1 a2 a3 t427 true l0_0 t424 t436)))))) = some r := by rw [if_pos rfl] at H; exact H
             clear H; have H := H1; clear H1; replace H := Option.bind_eq_some_iff.mp H; obtain ⟨⟨t450, t451⟩, A790, H⟩ := H; replace H : ((laws_markRawS.f kj21 t433 t450).bind fun bt452 => (if bt452.1 < 0 then (laws_FnExactCutRaws.j1 kj21 l1 a2 a3 t427 true l0_0 t424 t436) else ((laws_eqDisk.f kj21 t436 t424).bind fun t454 => (if t454 = true then (laws_FnExactCutRaws.j1 kj21 l1 a2 a3 t427 (t439 != t427) l0_0 t424 t436) else (laws_FnExactCutRaws.j1 kj21 l1 a2 a3 t427 true l0_0 t424 t436))))) = some r := H; have A79 := Aside0.mk A790; clear A790; replace H := Option.bind_eq_some_iff.mp H; obtain ⟨⟨t452, t453⟩, A800, H⟩ := H; replace H : (if t452 < 0 then (laws_FnExactCutRaws.j1 kj21 l1 a2 a3 t427 true l0_0 t424 t436) else ((laws_eqDisk.f kj21 t436 t424).bind fun t454 => (if t454 = true then (laws_FnExactCutRaws.j1 kj21 l1 a2 a3 t427 (t439 != t427) l0_0 t424 t436) else (laws_FnExactCutRaws.j1 kj21 l1 a2 a3 t427 true l0_0 t424 t436)))) = some r := H; have A80 := Aside0.mk A800; clear A800; have HC81 := Aside0.mk H; clear H
             try go_wp2
             replace HO_13 := Aside0.mk (Kd.R_drew HO_13.out); replace HO_429000 := Aside0.mk (Kd.R_drew HO_429000.out); replace HO_433000 := Aside0.mk (Kd.R_drew HO_433000.out); replace HO_441000 := Aside0.mk (Kd.R_drew HO_441000.out); replace BK415 := Aside0.mk (blk_drew BK415.out); replace BK428 := Aside0.mk (blk_drew BK428.out); replace BK432 := Aside0.mk (blk_drew BK432.out); replace BK440 := Aside0.mk (blk_drew BK440.out); replace HB := Aside0.mk (below_drew1 HB.out); refine start_ (n := 5) (S := fun w' => w'.cell? ⟨gb432, 0, none⟩ = some (.slice Ao40 t429.length co40) ∧ w'.cell? ⟨gb415, 0, none⟩ = some (.slice A0_0 l0_0.length c0_0)) (ds := []) #[false, false, false, false, false] (by kernel_rfl) rfl rfl ⟨bc0 BK432, bc0 BK415⟩ (fun hHeld => ?_)
             generalize wc.drew = w82 at HO_13 HO_429000 HO_433000 HO_441000 BK415 BK428 BK432 BK440 HB hHeld ⊢; refine take_ (i := 0) (N := some 62) (v := ?_) (a' := ?_) #[true, false, false, false, false] rfl rfl (by kernel_rfl) (fun _ _ _ h => h) (Or.inl ⟨by rfl, ?_⟩) hHeld ?_ ?_
             rotate_left
             · rintro w' ⟨s0, s1⟩; go_simp; with_reducible rfl
             rotate_left
             · simp only [Act.put, ps1, ps2, ps3, i64_w, i32_w]; rfl
             refine take_ (i := 1) (N := some 63) (v := ?_) (a' := ?_) #[true, true, false, false, false] rfl rfl (by kernel_rfl) (fun _ _ _ h => h) (Or.inl ⟨by rfl, ?_⟩) hHeld ?_ ?_
             rotate_left
             · rintro w' ⟨s0, s1⟩; go_simp; with_reducible rfl
             rotate_left
             · simp only [Act.put, ps1, ps2, ps3, i64_w, i32_w]; rfl
             refine one_ (i := 2) (N := some 64) #[true, true, true, false, false] rfl rfl (by kernel_rfl) (by decide) (fun K hK => ?_)
             refine goes_ Try.func14 (by kernel_rfl) rfl #[.agg #[.slice A0_0 l0_0.length c0_0]] (by rfl) rfl rfl t1_ ?_
             with_reducible refine (laws_toDisk.calls kj21 _ _ l0_0 t442 _ ?side1 ?side2 A73.out).mono ?_
             (case side1 => exact cB HR0_0 HB)
             (case side2 => exact HC0_0.out)
             rintro e w83 ⟨v443, rfl, ho0, hb⟩; refine ⟨_, rfl, ?_⟩
             replace HO_13 := Aside0.mk (Kd.R_below t68_ hb); have HO444 := Aside0.mk (Kd.R_lower (Kd.R_new' (Kd.R_new' (Kd.R_new' ho0 (Kd.R_lt t40_)) (Kd.R_lt t41_)) (Kd.R_lt t42_)) (below_size t15_)); replace HO_429000 := Aside0.mk (Kd.R_elder' t40_ (Kd.R_base ho0) hb); replace HO_433000 := Aside0.mk (Kd.R_elder' t41_ (Kd.R_base ho0) hb); replace HO_441000 := Aside0.mk (Kd.R_elder' t42_ (Kd.R_base ho0) hb); replace BK415 := bkN BK415 hb; replace BK428 := bkN BK428 hb; replace BK432 := bkN BK432 hb; replace BK440 := bkN BK440 hb; replace HB := bS t15_ hb
             (try clear hb)
             (try clear hb2)
             (try clear hk)
             (try clear hi)
             (try clear ho0)
             obtain ⟨Ao84, co84, eo84⟩ := Kd.R_slice HO444.out
             (first | subst eo84 | (injection eo84 with f1_ f2_ f3_; have f4_ := f1_.symm; have f5_ := f3_.symm; clear f1_ f2_ f3_; subst f4_; subst f5_))
             refine hK.out _ _ ⟨bc0 BK432, bc0 BK415⟩ (fun hHeld => ?_)
             clear hK K; refine norm_ (a' := ?_) ?_ ?_
             rotate_left
             · show Act.put _ (some 64) _ = _
               simp only [Act.put, ps1, ps2, ps3, i64_w, i32_w]; rfl
             refine one_ (i := 3) (N := some 65) #[true, true, true, true, false] rfl rfl (by kernel_rfl) (by decide) (fun K hK => ?_)
             refine goes_ Try.func17 (by kernel_rfl) rfl #[.agg #[.slice Ao40 t429.length co40], .agg #[.slice Ao84 t442.length co84]] (by rfl) rfl rfl t1_ ?_
             with_reducible refine (laws_eqDisk.calls kj21 _ _ t429 _ _ t442 true _ ?side1 ?side2 ?side3 ?side4 A74.out).mono ?_
             (case side1 => repeat (first | exact (Kd.R_reads' HO_433000.out).2.2 | (with_reducible refine Kd.C_alloc ?_ _) | (with_reducible refine Kd.C_drewN ?_ _) | (with_reducible refine Kd.C_drew ?_)))
             (case side2 => exact (Kd.R_reads' HO_433000.out).2.1)
             (case side3 => repeat (first | exact (Kd.R_reads' HO444.out).2.2 | (with_reducible refine Kd.C_alloc ?_ _) | (with_reducible refine Kd.C_drewN ?_ _) | (with_reducible refine Kd.C_drew ?_)))
             (case side4 => exact (Kd.R_reads' HO444.out).2.1)
             rintro e w85 ⟨rfl, hb⟩; refine ⟨_, rfl, ?_⟩
             replace HO_13 := Aside0.mk (Kd.R_below t68_ hb); replace HO_429000 := Aside0.mk (Kd.R_below t40_ hb); replace HO_433000 := Aside0.mk (Kd.R_below t41_ hb); replace HO_441000 := Aside0.mk (Kd.R_below t42_ hb); replace HO444 := Aside0.mk (Kd.R_below t82_ hb); replace BK415 := bkN BK415 hb; replace BK428 := bkN BK428 hb; replace BK432 := bkN BK432 hb; replace BK440 := bkN BK440 hb; replace HB := bS t15_ hb
             (try clear hb)
             (try clear hb2)
             (try clear hk)
             (try clear hi)
             refine hK.out _ _ ⟨bc0 BK432, bc0 BK415⟩ (fun hHeld => ?_)
             clear hK K; refine norm_ (a' := ?_) ?_ ?_
             rotate_left
             · show Act.put _ (some 65) _ = _
               simp only [Act.put, ps1, ps2, ps3, i64_w, i32_w]; rfl
             refine pure_ (i := 4) (N := some 66) (v := ?_) (a' := ?_) #[true, true, true, true, true] rfl rfl (by kernel_rfl) (fun _ _ _ h => h) (Or.inl ⟨by rfl, ?_⟩) ?_ ?_
             rotate_left
             · intro w'; go_simp; with_reducible rfl
             rotate_left
             · simp only [Act.put, ps1, ps2, ps3, i64_w, i32_w]; rfl
             refine done_ (by kernel_rfl) ?_
             go_upto_region 21 with (first | ((with_reducible refine gate_callee (f := 15) rfl ?_); refine goesL_ (some 69) rfl rfl Try.func15 (by kernel_rfl) rfl #[.slice A1 l1.length c1] rfl t1_ ?_; (with_reducible refine (laws_toRawS.calls kj21 _ _ l1 t446 _ ?side1 ?side2 A76.out).mono ?_); (case side1 => exact cB HR1 HB); (case side2 => exact HC1.out); rintro e w86 ⟨v447, rfl, ho0, hb⟩; refine ⟨_, rfl, ?_⟩; replace HO_429000 := Aside0.mk (Kd.R_below t40_ hb); replace HO_433000 := Aside0.mk (Kd.R_below t41_ hb); replace HO_441000 := Aside0.mk (Kd.R_below t42_ hb); replace HO444 := Aside0.mk (Kd.R_below t82_ hb); have HO448 := Aside0.mk (Kd.R_lower (Kd.R_new' ho0 (Kd.R_lt t68_)) (below_size t15_)); replace HO_13 := Aside0.mk (Kd.R_elder' t68_ (Kd.R_base ho0) hb); replace BK415 := bkN BK415 hb; replace BK428 := bkN BK428 hb; replace BK432 := bkN BK432 hb; replace BK440 := bkN BK440 hb; replace HB := bS t15_ hb; (try clear hb); (try clear ho0); obtain ⟨Ao87, co87, eo87⟩ := Kd.R_slice HO448.out; subst eo87) | ((with_reducible refine gate_callee (f := 18) rfl ?_); refine goesL_ (some 70) rfl rfl Try.func18 (by kernel_rfl) rfl #[.slice Ao46 t433.length co46, .slice Ao87 t446.length co87] rfl t1_ ?_; (with_reducible refine (laws_eqRawS.calls kj21 _ _ t433 _ _ t446 true _ ?side1 ?side2 ?side3 ?side4 A77.out).mono ?_); (case side1 => repeat (first | exact (Kd.R_reads' HO_13.out).2.2 | (with_reducible refine Kd.C_alloc ?_ _) | (with_reducible refine Kd.C_drewN ?_ _) | (with_reducible refine Kd.C_drew ?_))); (case side2 => exact (Kd.R_reads' HO_13.out).2.1); (case side3 => repeat (first | exact (Kd.R_reads' HO448.out).2.2 | (with_reducible refine Kd.C_alloc ?_ _) | (with_reducible refine Kd.C_drewN ?_ _) | (with_reducible refine Kd.C_drew ?_))); (case side4 => exact (Kd.R_reads' HO448.out).2.1); rintro e w88 ⟨rfl, hb⟩; refine ⟨_, rfl, ?_⟩; replace HO_13 := Aside0.mk (Kd.R_below t68_ hb); replace HO_429000 := Aside0.mk (Kd.R_below t40_ hb); replace HO_433000 := Aside0.mk (Kd.R_below t41_ hb); replace HO_441000 := Aside0.mk (Kd.R_below t42_ hb); replace HO444 := Aside0.mk (Kd.R_below t82_ hb); replace HO448 := Aside0.mk (Kd.R_below (by (with_reducible repeat (first | apply Kd.R_alloc | apply Kd.R_drewN | apply Kd.R_drew)); exact HO448.out) hb); replace BK415 := bkN BK415 hb; replace BK428 := bkN BK428 hb; replace BK432 := bkN BK432 hb; replace BK440 := bkN BK440 hb; replace HB := bS t15_ hb; (try clear hb); have hnb89 := NB432_415.out; have hnc89 := NB415_432.out; have hnb90 := NB432_428.out; have hnc90 := NB428_432.out; have hnb91 := NB432_440.out; have hnc91 := NB440_432.out; obtain ⟨hcz92_0, hfz92_0⟩ := ba1 BK432) | ((with_reducible refine gate_callee (f := 19) rfl ?_); refine goesL_ (some 74) rfl rfl Try.func19 (by kernel_rfl) rfl #[.agg #[.slice Ao40 t429.length co40], .int .i64 1] rfl t1_ ?_; (with_reducible refine (laws_markDisk.calls kj21 (fun k_ => some k_ = (.slice Ao40 t429.length co40 : Value).ownBlock) (.slice Ao40 t429.length co40) t429 1 t450 t451 w _ ?side1 ?side2 A79.out).mono ?_); (case side1 => repeat (first | (with_reducible first | exact HB.out | apply below_alloc | apply pw_below_drewN | apply below_drew1 | refine below_set ?_ GE415.out | refine below_set ?_ GE428.out | refine below_set ?_ GE432.out | refine below_set ?_ GE440.out) | exact HB.out)); (case side2 => exact Kd.R_tight rfl HO_433000.out); rintro e w93 ⟨rfl, hy0, hb, hkp⟩; refine ⟨_, rfl, ?_⟩; replace HO_13 := Aside0.mk (Kd.R_mono (ok' := fun k_ => some k_ ≠ (.slice Ao87 t446.length co87 : Value).ownBlock) (Kd.R_keptB ((Kd.R_apart' HO_13.out (Kd.R_typed HO_433000.out) (by decide))) hkp (fun k_ hk_ hs_ => (hk_.2) hs_)) (fun k_ hk_ => hk_.1.1.2)); replace HO_429000 := Aside0.mk (Kd.R_mono (ok' := fun k_ => some k_ ≠ (.slice Ao40 t429.length co40 : Value).ownBlock ∧ some k_ ≠ (.slice Ao49 t436.length co49 : Value).ownBlock ∧ some k_ ≠ (.slice Ao84 t442.length co84 : Value).ownBlock) (Kd.R_keptB (HO_429000.out) hkp (fun k_ hk_ hs_ => (hk_.1.1) hs_)) (fun k_ hk_ => ⟨hk_.1.1.1, hk_.1.1.2, hk_.1.2⟩)); replace HO_441000 := Aside0.mk (Kd.R_mono (ok' := fun k_ => some k_ ≠ (.slice Ao34 t424.length co34 : Value).ownBlock ∧ some k_ ≠ (.slice Ao40 t429.length co40 : Value).ownBlock ∧ some k_ ≠ (.slice Ao84 t442.length co84 : Value).ownBlock) (Kd.R_keptB (HO_441000.out) hkp (fun k_ hk_ hs_ => (hk_.1.2) hs_)) (fun k_ hk_ => ⟨hk_.1.1.1, hk_.1.1.2, hk_.1.2⟩)); replace BK415 := Aside0.mk (blk_kept (by (with_reducible repeat (first | refine blk_drewN ?_ _ | refine blk_drew ?_ | refine blk_alloc ?_ _)); exact BK415.out) hkp (fun hs_ => (fun e_ => (Kd.R_ne HO_433000.out BK415.out (by decide)) e_) hs_)); replace BK428 := Aside0.mk (blk_kept (by (with_reducible repeat (first | refine blk_drewN ?_ _ | refine blk_drew ?_ | refine blk_alloc ?_ _)); exact BK428.out) hkp (fun hs_ => (fun e_ => (Kd.R_ne HO_433000.out BK428.out (by decide)) e_) hs_)); replace BK432 := Aside0.mk (blk_kept (by (with_reducible repeat (first | refine blk_drewN ?_ _ | refine blk_drew ?_ | refine blk_alloc ?_ _)); exact BK432.out) hkp (fun hs_ => (fun e_ => (Kd.R_ne HO_433000.out BK432.out (by decide)) e_) hs_)); replace BK440 := Aside0.mk (blk_kept (by (with_reducible repeat (first | refine blk_drewN ?_ _ | refine blk_drew ?_ | refine blk_alloc ?_ _)); exact BK440.out) hkp (fun hs_ => (fun e_ => (Kd.R_ne HO_433000.out BK440.out (by decide)) e_) hs_)); replace HO444 := Aside0.mk (Kd.R_mono (ok' := fun k_ => some k_ ≠ (.slice Ao34 t424.length co34 : Value).ownBlock ∧ some k_ ≠ (.slice Ao40 t429.length co40 : Value).ownBlock ∧ some k_ ≠ (.slice Ao49 t436.length co49 : Value).ownBlock) (Kd.R_keptB (HO444.out) hkp (fun k_ hk_ hs_ => (hk_.1.2) hs_)) (fun k_ hk_ => ⟨hk_.1.1.1.2, hk_.1.1.2, hk_.1.2⟩)); replace HO448 := Aside0.mk (Kd.R_mono (ok' := fun k_ => some k_ ≠ (.slice Ao46 t433.length co46 : Value).ownBlock) (Kd.R_keptB ((Kd.R_apart' HO448.out (Kd.R_typed HO_433000.out) (by decide))) hkp (fun k_ hk_ hs_ => (hk_.2) hs_)) (fun k_ hk_ => hk_.1.1.2)); replace HO_433000 := Aside0.mk (Kd.R_reok rfl hy0 (fun k_ e_ => HO_433000.out.1 k_ e_)); replace HB := Aside0.mk (hb); (try clear hb); (try clear hkp); (try clear hy0)) | ((with_reducible refine gate_callee (f := 20) rfl ?_); refine goesL_ (some 77) rfl rfl Try.func20 (by kernel_rfl) rfl #[.slice Ao46 t433.length co46, .int .i64 t450] rfl t1_ ?_; (with_reducible refine (laws_markRawS.calls kj21 (fun k_ => some k_ = (.slice Ao46 t433.length co46 : Value).ownBlock) (.slice Ao46 t433.length co46) t433 t450 t452 t453 w _ ?side1 ?side2 A80.out).mono ?_); (case side1 => repeat (first | (with_reducible first | exact HB.out | apply below_alloc | apply pw_below_drewN | apply below_drew1 | refine below_set ?_ GE415.out | refine below_set ?_ GE428.out | refine below_set ?_ GE432.out | refine below_set ?_ GE440.out) | exact HB.out)); (case side2 => exact Kd.R_tight rfl HO_13.out); rintro e w94 ⟨rfl, hy0, hb, hkp⟩; refine ⟨_, rfl, ?_⟩; replace HO_429000 := Aside0.mk (Kd.R_mono (ok' := fun k_ => some k_ ≠ (.slice Ao40 t429.length co40 : Value).ownBlock ∧ some k_ ≠ (.slice Ao49 t436.length co49 : Value).ownBlock ∧ some k_ ≠ (.slice Ao84 t442.length co84 : Value).ownBlock) (Kd.R_keptB ((Kd.R_apart' HO_429000.out (Kd.R_typed HO_13.out) (by decide))) hkp (fun k_ hk_ hs_ => (hk_.2) hs_)) (fun k_ hk_ => ⟨hk_.1.1.1, hk_.1.1.2.1, hk_.1.1.2.2⟩)); replace HO_433000 := Aside0.mk (Kd.R_mono (ok' := fun k_ => some k_ ≠ (.slice Ao34 t424.length co34 : Value).ownBlock ∧ some k_ ≠ (.slice Ao49 t436.length co49 : Value).ownBlock ∧ some k_ ≠ (.slice Ao84 t442.length co84 : Value).ownBlock) (Kd.R_keptB ((Kd.R_apart' HO_433000.out (Kd.R_typed HO_13.out) (by decide))) hkp (fun k_ hk_ hs_ => (hk_.2) hs_)) (fun k_ hk_ => ⟨hk_.1.1.1.1, hk_.1.1.1.2, hk_.1.1.2⟩)); replace HO_441000 := Aside0.mk (Kd.R_mono (ok' := fun k_ => some k_ ≠ (.slice Ao34 t424.length co34 : Value).ownBlock ∧ some k_ ≠ (.slice Ao40 t429.length co40 : Value).ownBlock ∧ some k_ ≠ (.slice Ao84 t442.length co84 : Value).ownBlock) (Kd.R_keptB ((Kd.R_apart' HO_441000.out (Kd.R_typed HO_13.out) (by decide))) hkp (fun k_ hk_ hs_ => (hk_.2) hs_)) (fun k_ hk_ => ⟨hk_.1.1.1, hk_.1.1.2.1, hk_.1.1.2.2⟩)); replace BK415 := Aside0.mk (blk_kept (by (with_reducible repeat (first | refine blk_drewN ?_ _ | refine blk_drew ?_ | refine blk_alloc ?_ _)); exact BK415.out) hkp (fun hs_ => (fun e_ => (Kd.R_ne HO_13.out BK415.out (by decide)) e_) hs_)); replace BK428 := Aside0.mk (blk_kept (by (with_reducible repeat (first | refine blk_drewN ?_ _ | refine blk_drew ?_ | refine blk_alloc ?_ _)); exact BK428.out) hkp (fun hs_ => (fun e_ => (Kd.R_ne HO_13.out BK428.out (by decide)) e_) hs_)); replace BK432 := Aside0.mk (blk_kept (by (with_reducible repeat (first | refine blk_drewN ?_ _ | refine blk_drew ?_ | refine blk_alloc ?_ _)); exact BK432.out) hkp (fun hs_ => (fun e_ => (Kd.R_ne HO_13.out BK432.out (by decide)) e_) hs_)); replace BK440 := Aside0.mk (blk_kept (by (with_reducible repeat (first | refine blk_drewN ?_ _ | refine blk_drew ?_ | refine blk_alloc ?_ _)); exact BK440.out) hkp (fun hs_ => (fun e_ => (Kd.R_ne HO_13.out BK440.out (by decide)) e_) hs_)); replace HO444 := Aside0.mk (Kd.R_mono (ok' := fun k_ => some k_ ≠ (.slice Ao34 t424.length co34 : Value).ownBlock ∧ some k_ ≠ (.slice Ao40 t429.length co40 : Value).ownBlock ∧ some k_ ≠ (.slice Ao49 t436.length co49 : Value).ownBlock) (Kd.R_keptB ((Kd.R_apart' HO444.out (Kd.R_typed HO_13.out) (by decide))) hkp (fun k_ hk_ hs_ => (hk_.2) hs_)) (fun k_ hk_ => ⟨hk_.1.1.1, hk_.1.1.2.1, hk_.1.1.2.2⟩)); replace HO_13 := Aside0.mk (Kd.R_reok rfl hy0 (fun k_ e_ => HO_13.out.1 k_ e_)); replace HO448 := Aside0.mk (Kd.R_mono (ok' := fun k_ => some k_ ≠ (.slice Ao46 t433.length co46 : Value).ownBlock) (Kd.R_keptB (HO448.out) hkp (fun k_ hk_ hs_ => (hk_) hs_)) (fun k_ hk_ => hk_.1)); replace HB := Aside0.mk (hb); (try clear hb); (try clear hkp); (try clear hy0)))
             (try simp only [Act.put, List.setIfInBounds_toArray, List.set_cons_zero, List.set_cons_succ])
             go_cut [90] (fun v90 wc => ∃ (kq : Nat) (x90_80 : Bool), v90 = .bool x90_80 ∧ Aside0 (laws_FnExactCutRaws.j1 kq l1 a2 a3 t427 x90_80 l0_0 t424 t436 = some r) ∧ Aside0 (kq ≤ kj21) ∧ Aside0 (Kd.R k71 71 wc w.heap.size (fun k_ => some k_ ≠ ((.slice Ao40 t429.length co40) : Value).ownBlock ∧ some k_ ≠ ((.slice Ao49 t436.length co49) : Value).ownBlock) (.slice Ao34 t424.length co34) t424) ∧ Aside0 (Kd.R k71 71 wc w.heap.size (fun k_ => some k_ ≠ ((.slice Ao34 t424.length co34) : Value).ownBlock ∧ some k_ ≠ ((.slice Ao49 t436.length co49) : Value).ownBlock) (.slice Ao40 t429.length co40) t451) ∧ Aside0 (Kd.R k71 71 wc w.heap.size (fun k_ => some k_ ≠ ((.slice Ao34 t424.length co34) : Value).ownBlock ∧ some k_ ≠ ((.slice Ao40 t429.length co40) : Value).ownBlock) (.slice Ao49 t436.length co49) t436) ∧ Aside0 (wc.heap[gb415]? = some (.cells #[(.slice A0_0 l0_0.length c0_0)] 24 (0, 0))) ∧ Aside0 (wc.heap[gb428]? = some (.cells #[(.slice Ao34 t424.length co34)] 30 (0, 0))) ∧ Aside0 (wc.heap[gb432]? = some (.cells #[(.slice Ao40 t429.length co40)] 30 (0, 0))) ∧ Aside0 (wc.heap[gb440]? = some (.cells #[(.slice Ao49 t436.length co49)] 30 (0, 0))) ∧ Aside0 (Below w.heap.size w wc))
             case first =>
              have H := HC81.out; clear HC81; by_cases c95 : t452 < 0
              · rw [if_pos c95] at H; have c95b0 : decide (t452 < 0) = true := decide_eq_true c95; clear c95
                (first | rw [c95b0] | (simp only [i64_w, i32_w]; rw [c95b0]) | skip)
                have H' := Aside0.mk H; clear H; go_wp2; go_meet
                case rel => exact ⟨_, (true), t20_, H', ⟨by have := HJ21.out; first | omega | exact Nat.le_refl _⟩, ⟨by (with_reducible repeat (first | apply Kd.R_alloc | apply Kd.R_drewN | apply Kd.R_drew)); exact Kd.R_mono HO_429000.out (fun _ hk => ⟨hk.1, hk.2.1⟩)⟩, ⟨by (with_reducible repeat (first | apply Kd.R_alloc | apply Kd.R_drewN | apply Kd.R_drew)); exact Kd.R_mono HO_433000.out (fun _ hk => ⟨hk.1, hk.2.1⟩)⟩, ⟨by (with_reducible repeat (first | apply Kd.R_alloc | apply Kd.R_drewN | apply Kd.R_drew)); exact Kd.R_mono HO_441000.out (fun _ hk => ⟨hk.1, hk.2.1⟩)⟩, ⟨by (with_reducible repeat (first | refine blk_drewN ?_ _ | refine blk_drew ?_ | refine blk_alloc ?_ _)); exact BK415.out⟩, ⟨by (with_reducible repeat (first | refine blk_drewN ?_ _ | refine blk_drew ?_ | refine blk_alloc ?_ _)); exact BK428.out⟩, ⟨by (with_reducible repeat (first | refine blk_drewN ?_ _ | refine blk_drew ?_ | refine blk_alloc ?_ _)); exact BK432.out⟩, ⟨by (with_reducible repeat (first | refine blk_drewN ?_ _ | refine blk_drew ?_ | refine blk_alloc ?_ _)); exact BK440.out⟩, ⟨t15_⟩⟩
              · rw [if_neg c95] at H; have c95b0 : decide (t452 < 0) = false := decide_eq_false c95; clear c95
                (first | rw [c95b0] | (simp only [i64_w, i32_w]; rw [c95b0]) | skip)
                replace H := Option.bind_eq_some_iff.mp H; obtain ⟨t454, A960, H⟩ := H; replace H : (if t454 = true then (laws_FnExactCutRaws.j1 kj21 l1 a2 a3 t427 (t439 != t427) l0_0 t424 t436) else (laws_FnExactCutRaws.j1 kj21 l1 a2 a3 t427 true l0_0 t424 t436)) = some r := H; have A96 := Aside0.mk A960; clear A960; by_cases c97 : t454 = true
                · subst c97; have H1 : (laws_FnExactCutRaws.j1 kj21 l1 a2 a3 t427 (t439 != t427) l0_0 t424 t436) = some r := by rw [if_pos rfl] at H; exact H
                  clear H; have H := H1; clear H1; have H' := Aside0.mk H; clear H; have hnb98 := NB440_415.out; have hnc98 := NB415_440.out; have hnb99 := NB440_428.out; have hnc99 := NB428_440.out; have hnb100 := NB440_432.out; have hnc100 := NB432_440.out; obtain ⟨hcz101_0, hfz101_0⟩ := ba1 BK440; have hnb102 := NB428_415.out; have hnc102 := NB415_428.out; have hnb103 := NB428_432.out; have hnc103 := NB432_428.out; obtain ⟨hcz104_0, hfz104_0⟩ := ba1 BK428
                  go_wp2_with (first | (go_at_call 17; (with_reducible refine (laws_eqDisk.calls kj21 _ _ t436 _ _ t424 true _ ?side1 ?side2 ?side3 ?side4 A96.out).mono ?_); (case side1 => repeat (first | exact (Kd.R_reads' HO_441000.out).2.2 | (with_reducible refine Kd.C_alloc ?_ _) | (with_reducible refine Kd.C_drewN ?_ _) | (with_reducible refine Kd.C_drew ?_))); (case side2 => exact (Kd.R_reads' HO_441000.out).2.1); (case side3 => repeat (first | exact (Kd.R_reads' HO_429000.out).2.2 | (with_reducible refine Kd.C_alloc ?_ _) | (with_reducible refine Kd.C_drewN ?_ _) | (with_reducible refine Kd.C_drew ?_))); (case side4 => exact (Kd.R_reads' HO_429000.out).2.1); rintro e w105 ⟨rfl, hb⟩; replace HO_13 := Aside0.mk (Kd.R_below t68_ hb); replace HO_429000 := Aside0.mk (Kd.R_below t40_ hb); replace HO_433000 := Aside0.mk (Kd.R_below t41_ hb); replace HO_441000 := Aside0.mk (Kd.R_below t42_ hb); replace HO444 := Aside0.mk (Kd.R_below t82_ hb); replace HO448 := Aside0.mk (Kd.R_below (by (with_reducible repeat (first | apply Kd.R_alloc | apply Kd.R_drewN | apply Kd.R_drew)); exact HO448.out) hb); replace BK415 := bkN BK415 hb; replace BK428 := bkN BK428 hb; replace BK432 := bkN BK432 hb; replace BK440 := bkN BK440 hb; replace HB := bS t15_ hb; (try clear hb)))
                  go_meet
                  case rel => exact ⟨_, ((t439 != t427)), t20_, H', ⟨by have := HJ21.out; first | omega | exact Nat.le_refl _⟩, ⟨by (with_reducible repeat (first | apply Kd.R_alloc | apply Kd.R_drewN | apply Kd.R_drew)); exact Kd.R_mono HO_429000.out (fun _ hk => ⟨hk.1, hk.2.1⟩)⟩, ⟨by (with_reducible repeat (first | apply Kd.R_alloc | apply Kd.R_drewN | apply Kd.R_drew)); exact Kd.R_mono HO_433000.out (fun _ hk => ⟨hk.1, hk.2.1⟩)⟩, ⟨by (with_reducible repeat (first | apply Kd.R_alloc | apply Kd.R_drewN | apply Kd.R_drew)); exact Kd.R_mono HO_441000.out (fun _ hk => ⟨hk.1, hk.2.1⟩)⟩, ⟨by (with_reducible repeat (first | refine blk_drewN ?_ _ | refine blk_drew ?_ | refine blk_alloc ?_ _)); exact BK415.out⟩, ⟨by (with_reducible repeat (first | refine blk_drewN ?_ _ | refine blk_drew ?_ | refine blk_alloc ?_ _)); exact BK428.out⟩, ⟨by (with_reducible repeat (first | refine blk_drewN ?_ _ | refine blk_drew ?_ | refine blk_alloc ?_ _)); exact BK432.out⟩, ⟨by (with_reducible repeat (first | refine blk_drewN ?_ _ | refine blk_drew ?_ | refine blk_alloc ?_ _)); exact BK440.out⟩, ⟨t15_⟩⟩
                · replace c97 := Bool.eq_false_iff.mpr c97; subst c97; have H1 : (laws_FnExactCutRaws.j1 kj21 l1 a2 a3 t427 true l0_0 t424 t436) = some r := by rw [if_neg (show ¬ (false = true) by decide)] at H; exact H
                  clear H; have H := H1; clear H1; have H' := Aside0.mk H; clear H; have hnb106 := NB440_415.out; have hnc106 := NB415_440.out; have hnb107 := NB440_428.out; have hnc107 := NB428_440.out; have hnb108 := NB440_432.out; have hnc108 := NB432_440.out; obtain ⟨hcz109_0, hfz109_0⟩ := ba1 BK440; have hnb110 := NB428_415.out; have hnc110 := NB415_428.out; have hnb111 := NB428_432.out; have hnc111 := NB432_428.out; obtain ⟨hcz112_0, hfz112_0⟩ := ba1 BK428
                  go_wp2_with (first | (go_at_call 17; (with_reducible refine (laws_eqDisk.calls kj21 _ _ t436 _ _ t424 false _ ?side1 ?side2 ?side3 ?side4 A96.out).mono ?_); (case side1 => repeat (first | exact (Kd.R_reads' HO_441000.out).2.2 | (with_reducible refine Kd.C_alloc ?_ _) | (with_reducible refine Kd.C_drewN ?_ _) | (with_reducible refine Kd.C_drew ?_))); (case side2 => exact (Kd.R_reads' HO_441000.out).2.1); (case side3 => repeat (first | exact (Kd.R_reads' HO_429000.out).2.2 | (with_reducible refine Kd.C_alloc ?_ _) | (with_reducible refine Kd.C_drewN ?_ _) | (with_reducible refine Kd.C_drew ?_))); (case side4 => exact (Kd.R_reads' HO_429000.out).2.1); rintro e w113 ⟨rfl, hb⟩; replace HO_13 := Aside0.mk (Kd.R_below t68_ hb); replace HO_429000 := Aside0.mk (Kd.R_below t40_ hb); replace HO_433000 := Aside0.mk (Kd.R_below t41_ hb); replace HO_441000 := Aside0.mk (Kd.R_below t42_ hb); replace HO444 := Aside0.mk (Kd.R_below t82_ hb); replace HO448 := Aside0.mk (Kd.R_below (by (with_reducible repeat (first | apply Kd.R_alloc | apply Kd.R_drewN | apply Kd.R_drew)); exact HO448.out) hb); replace BK415 := bkN BK415 hb; replace BK428 := bkN BK428 hb; replace BK432 := bkN BK432 hb; replace BK440 := bkN BK440 hb; replace HB := bS t15_ hb; (try clear hb)))
                  go_meet
                  case rel => exact ⟨_, (true), t20_, H', ⟨by have := HJ21.out; first | omega | exact Nat.le_refl _⟩, ⟨by (with_reducible repeat (first | apply Kd.R_alloc | apply Kd.R_drewN | apply Kd.R_drew)); exact Kd.R_mono HO_429000.out (fun _ hk => ⟨hk.1, hk.2.1⟩)⟩, ⟨by (with_reducible repeat (first | apply Kd.R_alloc | apply Kd.R_drewN | apply Kd.R_drew)); exact Kd.R_mono HO_433000.out (fun _ hk => ⟨hk.1, hk.2.1⟩)⟩, ⟨by (with_reducible repeat (first | apply Kd.R_alloc | apply Kd.R_drewN | apply Kd.R_drew)); exact Kd.R_mono HO_441000.out (fun _ hk => ⟨hk.1, hk.2.1⟩)⟩, ⟨by (with_reducible repeat (first | refine blk_drewN ?_ _ | refine blk_drew ?_ | refine blk_alloc ?_ _)); exact BK415.out⟩, ⟨by (with_reducible repeat (first | refine blk_drewN ?_ _ | refine blk_drew ?_ | refine blk_alloc ?_ _)); exact BK428.out⟩, ⟨by (with_reducible repeat (first | refine blk_drewN ?_ _ | refine blk_drew ?_ | refine blk_alloc ?_ _)); exact BK432.out⟩, ⟨by (with_reducible repeat (first | refine blk_drewN ?_ _ | refine blk_drew ?_ | refine blk_alloc ?_ _)); exact BK440.out⟩, ⟨t15_⟩⟩
             case rest =>
              clear HC81
              try clear c1
              try clear c2
              try clear p2
              try clear c3
              try clear c4
              try clear c5
              try clear c6
              try clear c6b0
              try clear c7
              try clear c8
              try clear c9
              try clear c10
              try clear c11
              try clear c11b0
              try clear c12
              try clear c13
              try clear c14
              try clear c15
              try clear c16
              try clear c17
              try clear c18
              try clear c19
              try clear c20
              try clear c35
              try clear c41
              try clear c42
              try clear c50
              try clear c51
              try clear c52
              try clear c55
              try clear c56
              try clear c57
              try clear c58
              try clear c60
              try clear c61
              try clear c64
              try clear c65
              try clear c66
              try clear c68
              try clear c69
              try clear c72
              try clear c75
              try clear c78
              try clear c89
              try clear c90
              try clear c91
              try clear c95
              try clear c95b0
              try clear c97
              try clear c98
              try clear c99
              try clear c100
              try clear c102
              try clear c103
              try clear c106
              try clear c107
              try clear c108
              try clear c110
              try clear c111
              try clear hcz101_0
              try clear hcz104_0
              try clear hcz109_0
              try clear hcz112_0
              try clear hcz13_0
              try clear hcz24_0
              try clear hcz27_0
              try clear hcz36_0
              try clear hcz37_0
              try clear hcz43_0
              try clear hcz45_0
              try clear hcz53_0
              try clear hcz59_0
              try clear hcz62_0
              try clear hcz67_0
              try clear hcz70_0
              try clear hcz8_0
              try clear hcz92_0
              try clear hfz101_0
              try clear hfz104_0
              try clear hfz109_0
              try clear hfz112_0
              try clear hfz13_0
              try clear hfz24_0
              try clear hfz27_0
              try clear hfz36_0
              try clear hfz37_0
              try clear hfz43_0
              try clear hfz45_0
              try clear hfz53_0
              try clear hfz59_0
              try clear hfz62_0
              try clear hfz67_0
              try clear hfz70_0
              try clear hfz8_0
              try clear hfz92_0
              try clear p2
              obtain ⟨kq, x90_80, rfl, HA, HJ80, HO_429000, HO_433000, HO_441000, BK415, BK428, BK432, BK440, HB⟩ := hcut; have hl433000_80 := (Kd.R_reads' HO_433000.out).1; rw [hl433000_80] at HO_433000
              (try simp only [hl433000_80])
              (try simp only [hl433000_80] at BK415)
              (try simp only [hl433000_80] at BK428)
              (try simp only [hl433000_80] at BK432)
              (try simp only [hl433000_80] at BK440)
              (try simp only [hl433000_80] at HO_429000)
              (try simp only [hl433000_80] at HO_441000)
              cases kq with
              | zero => exact absurd HA.out (by simp [laws_FnExactCutRaws.j1])
              | succ kj80 =>
               have H := HA.out; clear HA; simp only [laws_FnExactCutRaws.j1] at H; by_cases c114 : x90_80 = true
               · subst c114; have H1 : (none) = some r := by rw [if_pos rfl] at H; exact H
                 clear H; have H := H1; clear H1; exact absurd H (by simp)
               · replace c114 := Bool.eq_false_iff.mpr c114; subst c114; have H1 : ((laws_markDisk.f kj80 t436 1).bind fun bt455 => ((laws_heldDisk.f kj80 bt455.2 1).bind fun t457 => (if t457 < 0 then (none) else (if t457 = bt455.1 then ((laws_toDisk.f kj80 l0_0).bind fun t458 => ((laws_toRawS.f kj80 l1).bind fun t461 => ((impl_CutRaws.f kj80 t458 t461 a2 a3).bind fun bt464 => ((laws_eqDisk.f kj80 bt464.1 t424).bind fun t469 => (if t469 = true then (laws_FnExactCutRaws.j2 kj80 bt455.1 (bt464.2 != t427) bt455.2) else (laws_FnExactCutRaws.j2 kj80 bt455.1 true bt455.2)))))) else (none))))) = some r := by rw [if_neg (show ¬ (false = true) by decide)] at H; exact H
                 clear H; have H := H1; clear H1; replace H := Option.bind_eq_some_iff.mp H; obtain ⟨⟨t455, t456⟩, A1150, H⟩ := H; replace H : ((laws_heldDisk.f kj80 t456 1).bind fun t457 => (if t457 < 0 then (none) else (if t457 = t455 then ((laws_toDisk.f kj80 l0_0).bind fun t458 => ((laws_toRawS.f kj80 l1).bind fun t461 => ((impl_CutRaws.f kj80 t458 t461 a2 a3).bind fun bt464 => ((laws_eqDisk.f kj80 bt464.1 t424).bind fun t469 => (if t469 = true then (laws_FnExactCutRaws.j2 kj80 t455 (bt464.2 != t427) t456) else (laws_FnExactCutRaws.j2 kj80 t455 true t456)))))) else (none)))) = some r := H; have A115 := Aside0.mk A1150; clear A1150; replace H := Option.bind_eq_some_iff.mp H; obtain ⟨t457, A1160, H⟩ := H; replace H : (if t457 < 0 then (none) else (if t457 = t455 then ((laws_toDisk.f kj80 l0_0).bind fun t458 => ((laws_toRawS.f kj80 l1).bind fun t461 => ((impl_CutRaws.f kj80 t458 t461 a2 a3).bind fun bt464 => ((laws_eqDisk.f kj80 bt464.1 t424).bind fun t469 => (if t469 = true then (laws_FnExactCutRaws.j2 kj80 t455 (bt464.2 != t427) t456) else (laws_FnExactCutRaws.j2 kj80 t455 true t456)))))) else (none))) = some r := H; have A116 := Aside0.mk A1160; clear A1160; by_cases c117 : t457 < 0
                 · rw [if_pos c117] at H; exact absurd H (by simp)
                 · rw [if_neg c117] at H; have c117b0 : decide (t457 < 0) = false := decide_eq_false c117; clear c117; by_cases c118 : t457 = t455
                   · rw [if_pos c118] at H; have c118b0 : (t457 == t455) = true := beq_iff_eq.mpr c118; have c118b1 : (t457 != t455) = false := bne_eq_false_iff_eq.mpr c118; clear c118; replace H := Option.bind_eq_some_iff.mp H; obtain ⟨t458, A1190, H⟩ := H; replace H : ((laws_toRawS.f kj80 l1).bind fun t461 => ((impl_CutRaws.f kj80 t458 t461 a2 a3).bind fun bt464 => ((laws_eqDisk.f kj80 bt464.1 t424).bind fun t469 => (if t469 = true then (laws_FnExactCutRaws.j2 kj80 t455 (bt464.2 != t427) t456) else (laws_FnExactCutRaws.j2 kj80 t455 true t456))))) = some r := H; have A119 := Aside0.mk A1190; clear A1190; replace H := Option.bind_eq_some_iff.mp H; obtain ⟨t461, A1200, H⟩ := H; replace H : ((impl_CutRaws.f kj80 t458 t461 a2 a3).bind fun bt464 => ((laws_eqDisk.f kj80 bt464.1 t424).bind fun t469 => (if t469 = true then (laws_FnExactCutRaws.j2 kj80 t455 (bt464.2 != t427) t456) else (laws_FnExactCutRaws.j2 kj80 t455 true t456)))) = some r := H; have A120 := Aside0.mk A1200; clear A1200; replace H := Option.bind_eq_some_iff.mp H; obtain ⟨⟨t464, t467⟩, A1210, H⟩ := H; replace H : ((laws_eqDisk.f kj80 t464 t424).bind fun t469 => (if t469 = true then (laws_FnExactCutRaws.j2 kj80 t455 (t467 != t427) t456) else (laws_FnExactCutRaws.j2 kj80 t455 true t456))) = some r := H; have A121 := Aside0.mk A1210; clear A1210; have HC122 := Aside0.mk H; clear H; have hnb123 := NB440_415.out; have hnc123 := NB415_440.out; have hnb124 := NB440_428.out; have hnc124 := NB428_440.out; have hnb125 := NB440_432.out; have hnc125 := NB432_440.out; obtain ⟨hcz126_0, hfz126_0⟩ := ba1 BK440
                     go_upto_region 32 with (first | ((with_reducible refine gate_callee (f := 19) rfl ?_); refine goesL_ (some 93) rfl rfl Try.func19 (by kernel_rfl) rfl #[.agg #[.slice Ao49 t436.length co49], .int .i64 1] rfl t1_ ?_; (with_reducible refine (laws_markDisk.calls kj80 (fun k_ => some k_ = (.slice Ao49 t436.length co49 : Value).ownBlock) (.slice Ao49 t436.length co49) t436 1 t455 t456 w _ ?side1 ?side2 A115.out).mono ?_); (case side1 => repeat (first | (with_reducible first | exact HB.out | apply below_alloc | apply pw_below_drewN | apply below_drew1 | refine below_set ?_ GE415.out | refine below_set ?_ GE428.out | refine below_set ?_ GE432.out | refine below_set ?_ GE440.out) | exact HB.out)); (case side2 => exact Kd.R_tight rfl HO_441000.out); rintro e w127 ⟨rfl, hy0, hb, hkp⟩; refine ⟨_, rfl, ?_⟩; replace HO_429000 := Aside0.mk (Kd.R_mono (ok' := fun k_ => some k_ ≠ (.slice Ao40 t451.length co40 : Value).ownBlock ∧ some k_ ≠ (.slice Ao49 t436.length co49 : Value).ownBlock) (Kd.R_keptB (HO_429000.out) hkp (fun k_ hk_ hs_ => (hk_.2) hs_)) (fun k_ hk_ => ⟨hk_.1.1, hk_.1.2⟩)); replace HO_433000 := Aside0.mk (Kd.R_mono (ok' := fun k_ => some k_ ≠ (.slice Ao34 t424.length co34 : Value).ownBlock ∧ some k_ ≠ (.slice Ao49 t436.length co49 : Value).ownBlock) (Kd.R_keptB (HO_433000.out) hkp (fun k_ hk_ hs_ => (hk_.2) hs_)) (fun k_ hk_ => ⟨hk_.1.1, hk_.1.2⟩)); replace BK415 := Aside0.mk (blk_kept (by (with_reducible repeat (first | refine blk_drewN ?_ _ | refine blk_drew ?_ | refine blk_alloc ?_ _)); exact BK415.out) hkp (fun hs_ => (fun e_ => (Kd.R_ne HO_441000.out BK415.out (by decide)) e_) hs_)); replace BK428 := Aside0.mk (blk_kept (by (with_reducible repeat (first | refine blk_drewN ?_ _ | refine blk_drew ?_ | refine blk_alloc ?_ _)); exact BK428.out) hkp (fun hs_ => (fun e_ => (Kd.R_ne HO_441000.out BK428.out (by decide)) e_) hs_)); replace BK432 := Aside0.mk (blk_kept (by (with_reducible repeat (first | refine blk_drewN ?_ _ | refine blk_drew ?_ | refine blk_alloc ?_ _)); exact BK432.out) hkp (fun hs_ => (fun e_ => (Kd.R_ne HO_441000.out BK432.out (by decide)) e_) hs_)); replace BK440 := Aside0.mk (blk_kept (by (with_reducible repeat (first | refine blk_drewN ?_ _ | refine blk_drew ?_ | refine blk_alloc ?_ _)); exact BK440.out) hkp (fun hs_ => (fun e_ => (Kd.R_ne HO_441000.out BK440.out (by decide)) e_) hs_)); replace HO_441000 := Aside0.mk (Kd.R_reok rfl hy0 (fun k_ e_ => HO_441000.out.1 k_ e_)); replace HB := Aside0.mk (hb); (try clear hb); (try clear hkp); (try clear hy0); obtain ⟨hcz128_0, hfz128_0⟩ := ba1 BK440) | ((with_reducible refine gate_callee (f := 21) rfl ?_); refine goesL_ (some 96) rfl rfl Try.func21 (by kernel_rfl) rfl #[.agg #[.slice Ao49 t456.length co49], .int .i64 1] rfl (by (try simp only [List.map_toArray, List.map_cons, List.map_nil]); first | done | (rw [show t456.length = t436.length from (Kd.R_reads' HO_441000.out).1.symm] <;> rfl) | rfl | (simp only [List.length_drop, List.length_take]; rfl)) ?_; (with_reducible refine (laws_heldDisk.calls kj80 _ _ t456 1 t457 _ ?side1 ?side2 A116.out).mono ?_); (case side1 => repeat (first | exact (Kd.R_reads' HO_441000.out).2.2 | (with_reducible refine Kd.C_alloc ?_ _) | (with_reducible refine Kd.C_drewN ?_ _) | (with_reducible refine Kd.C_drew ?_))); (case side2 => rw [show t456.length = t436.length from (Kd.R_reads' HO_441000.out).1.symm]; exact (Kd.R_reads' HO_441000.out).2.1); rintro e w129 ⟨rfl, hb⟩; refine ⟨_, rfl, ?_⟩; replace HO_429000 := Aside0.mk (Kd.R_below t40_ hb); replace HO_433000 := Aside0.mk (Kd.R_below t41_ hb); replace HO_441000 := Aside0.mk (Kd.R_below t42_ hb); replace BK415 := bkN BK415 hb; replace BK428 := bkN BK428 hb; replace BK432 := bkN BK432 hb; replace BK440 := bkN BK440 hb; replace HB := bS t15_ hb; (try clear hb); have hnb130 := NB415_428.out; have hnc130 := NB428_415.out; have hnb131 := NB415_432.out; have hnc131 := NB432_415.out; obtain ⟨hcz132_0, hfz132_0⟩ := ba1 BK415) | ((with_reducible refine gate_callee (f := 14) rfl ?_); refine goesL_ (some 104) rfl rfl Try.func14 (by kernel_rfl) rfl #[.agg #[.slice A0_0 l0_0.length c0_0]] rfl t1_ ?_; (with_reducible refine (laws_toDisk.calls kj80 _ _ l0_0 t458 _ ?side1 ?side2 A119.out).mono ?_); (case side1 => exact cB HR0_0 HB); (case side2 => exact HC0_0.out); rintro e w133 ⟨v459, rfl, ho0, hb⟩; refine ⟨_, rfl, ?_⟩; have HO460 := Aside0.mk (Kd.R_lower (Kd.R_new' (Kd.R_new' (Kd.R_new' ho0 (Kd.R_lt t40_)) (Kd.R_lt t41_)) (Kd.R_lt t42_)) (below_size t15_)); replace HO_429000 := Aside0.mk (Kd.R_elder' t40_ (Kd.R_base ho0) hb); replace HO_433000 := Aside0.mk (Kd.R_elder' t41_ (Kd.R_base ho0) hb); replace HO_441000 := Aside0.mk (Kd.R_elder' t42_ (Kd.R_base ho0) hb); replace BK415 := bkN BK415 hb; replace BK428 := bkN BK428 hb; replace BK432 := bkN BK432 hb; replace BK440 := bkN BK440 hb; replace HB := bS t15_ hb; (try clear hb); (try clear ho0)) | ((with_reducible refine gate_callee (f := 15) rfl ?_); refine goesL_ (some 106) rfl rfl Try.func15 (by kernel_rfl) rfl #[.slice A1 l1.length c1] rfl t1_ ?_; (with_reducible refine (laws_toRawS.calls kj80 _ _ l1 t461 _ ?side1 ?side2 A120.out).mono ?_); (case side1 => exact cB HR1 HB); (case side2 => exact HC1.out); rintro e w134 ⟨v462, rfl, ho0, hb⟩; refine ⟨_, rfl, ?_⟩; replace HO_429000 := Aside0.mk (Kd.R_below t40_ hb); replace HO_433000 := Aside0.mk (Kd.R_below t41_ hb); replace HO_441000 := Aside0.mk (Kd.R_below t42_ hb); replace HO460 := Aside0.mk (Kd.R_below t93_ hb); have HO463 := Aside0.mk (Kd.R_lower ho0 (below_size t15_)); replace BK415 := bkN BK415 hb; replace BK428 := bkN BK428 hb; replace BK432 := bkN BK432 hb; replace BK440 := bkN BK440 hb; replace HB := bS t15_ hb; (try clear hb); (try clear ho0); obtain ⟨Ao135, co135, eo135⟩ := Kd.R_slice HO460.out; subst eo135; obtain ⟨Ao136, co136, eo136⟩ := Kd.R_slice HO463.out; subst eo136) | ((with_reducible refine gate_callee (f := 16) rfl ?_); refine goesL_ (some 109) rfl rfl Try.func16 (by kernel_rfl) rfl #[.agg #[.slice Ao135 t458.length co135], .slice Ao136 t461.length co136, .int .i64 a2, .int .i64 a3] rfl t1_ ?_; (with_reducible refine (impl_CutRaws.calls kj80 _ _ t458 _ _ t461 a2 a3 t464 t467 _ ?side1 ?side2 ?side3 ?side4 A121.out).mono ?_); (case side1 => repeat (first | exact (Kd.R_reads' HO460.out).2.2 | (with_reducible refine Kd.C_alloc ?_ _) | (with_reducible refine Kd.C_drewN ?_ _) | (with_reducible refine Kd.C_drew ?_))); (case side2 => exact (Kd.R_reads' HO460.out).2.1); (case side3 => repeat (first | exact (Kd.R_reads' HO463.out).2.2 | (with_reducible refine Kd.C_alloc ?_ _) | (with_reducible refine Kd.C_drewN ?_ _) | (with_reducible refine Kd.C_drew ?_))); (case side4 => exact (Kd.R_reads' HO463.out).2.1); rintro e w137 ⟨v465, rfl, ho0, hb⟩; refine ⟨_, rfl, ?_⟩; replace HO463 := Aside0.mk (Kd.R_below (by (with_reducible repeat (first | apply Kd.R_alloc | apply Kd.R_drewN | apply Kd.R_drew)); exact HO463.out) hb); have HO466 := Aside0.mk (Kd.R_lower (Kd.R_new' (Kd.R_new' (Kd.R_new' (Kd.R_new' ho0 (Kd.R_lt t40_)) (Kd.R_lt t41_)) (Kd.R_lt t42_)) (Kd.R_lt t93_)) (below_size t15_)); replace HO_429000 := Aside0.mk (Kd.R_elder' t40_ (Kd.R_base ho0) hb); replace HO_433000 := Aside0.mk (Kd.R_elder' t41_ (Kd.R_base ho0) hb); replace HO_441000 := Aside0.mk (Kd.R_elder' t42_ (Kd.R_base ho0) hb); replace HO460 := Aside0.mk (Kd.R_elder' t93_ (Kd.R_base ho0) hb); replace BK415 := bkN BK415 hb; replace BK428 := bkN BK428 hb; replace BK432 := bkN BK432 hb; replace BK440 := bkN BK440 hb; replace HB := bS t15_ hb; (try clear hb); (try clear ho0)) | ((with_reducible refine gate_dst (N := 19) rfl ?_); refine boxE (N := 19) (cs := #[.slice none 0 0]) (t := 30) (h := ?_); intro gb468 hg w138 hbox hb; replace HO_429000 := Aside0.mk (Kd.R_below t40_ hb); replace HO_433000 := Aside0.mk (Kd.R_below t41_ hb); replace HO_441000 := Aside0.mk (Kd.R_below t42_ hb); replace HO460 := Aside0.mk (Kd.R_below t93_ hb); replace HO463 := Aside0.mk (Kd.R_below (by (with_reducible repeat (first | apply Kd.R_alloc | apply Kd.R_drewN | apply Kd.R_drew)); exact HO463.out) hb); replace HO466 := Aside0.mk (Kd.R_below (by (with_reducible repeat (first | apply Kd.R_alloc | apply Kd.R_drewN | apply Kd.R_drew)); exact HO466.out) hb); have BK468 := Aside0.mk (hbox); have GW468 := Aside0.mk ((by rw [hg]; exact (below_size t15_) : w.heap.size ≤ gb468)); have GE468 := Aside0.mk ((by rw [hg]; exact (below_size t15_) : w.heap.size ≤ gb468)); replace HB := bS t15_ hb; have NB415_468 := nbL BK415 hg; have NB468_415 := nbG BK415 hg; replace BK415 := bkN BK415 hb; have NB428_468 := nbL BK428 hg; have NB468_428 := nbG BK428 hg; replace BK428 := bkN BK428 hb; have NB432_468 := nbL BK432 hg; have NB468_432 := nbG BK432 hg; replace BK432 := bkN BK432 hb; have NB440_468 := nbL BK440 hg; have NB468_440 := nbG BK440 hg; replace BK440 := bkN BK440 hb; clear hb hbox hg; obtain ⟨Ao139, co139, eo139⟩ := Kd.R_slice HO466.out; subst eo139; have hnb140 := NB468_415.out; have hnc140 := NB415_468.out; have hnb141 := NB468_428.out; have hnc141 := NB428_468.out; have hnb142 := NB468_432.out; have hnc142 := NB432_468.out; have hnb143 := NB468_440.out; have hnc143 := NB440_468.out; obtain ⟨hcz144_0, hfz144_0⟩ := ba1 BK468))
                     (try simp only [Act.put, List.setIfInBounds_toArray, List.set_cons_zero, List.set_cons_succ])
                     go_cut [120] (fun v120 wc => ∃ (kq : Nat) (x120_121 : Bool), v120 = .bool x120_121 ∧ Aside0 (laws_FnExactCutRaws.j2 kq t455 x120_121 t456 = some r) ∧ Aside0 (kq ≤ kj80) ∧ Aside0 (Kd.R k71 71 wc w.heap.size (fun k_ => some k_ ≠ ((.slice Ao40 t451.length co40) : Value).ownBlock ∧ some k_ ≠ ((.slice Ao49 t436.length co49) : Value).ownBlock ∧ some k_ ≠ ((.slice Ao139 t464.length co139) : Value).ownBlock) (.slice Ao34 t424.length co34) t424) ∧ Aside0 (Kd.R k71 71 wc w.heap.size (fun k_ => some k_ ≠ ((.slice Ao34 t424.length co34) : Value).ownBlock ∧ some k_ ≠ ((.slice Ao49 t436.length co49) : Value).ownBlock ∧ some k_ ≠ ((.slice Ao139 t464.length co139) : Value).ownBlock) (.slice Ao40 t451.length co40) t451) ∧ Aside0 (Kd.R k71 71 wc w.heap.size (fun k_ => some k_ ≠ ((.slice Ao34 t424.length co34) : Value).ownBlock ∧ some k_ ≠ ((.slice Ao40 t451.length co40) : Value).ownBlock ∧ some k_ ≠ ((.slice Ao139 t464.length co139) : Value).ownBlock) (.slice Ao49 t436.length co49) t456) ∧ Aside0 (Kd.R k71 71 wc w.heap.size (fun k_ => some k_ ≠ ((.slice Ao34 t424.length co34) : Value).ownBlock ∧ some k_ ≠ ((.slice Ao40 t451.length co40) : Value).ownBlock ∧ some k_ ≠ ((.slice Ao49 t436.length co49) : Value).ownBlock) (.slice Ao139 t464.length co139) t464) ∧ Aside0 (wc.heap[gb415]? = some (.cells #[(.slice A0_0 l0_0.length c0_0)] 24 (0, 0))) ∧ Aside0 (wc.heap[gb428]? = some (.cells #[(.slice Ao34 t424.length co34)] 30 (0, 0))) ∧ Aside0 (wc.heap[gb432]? = some (.cells #[(.slice Ao40 t451.length co40)] 30 (0, 0))) ∧ Aside0 (wc.heap[gb440]? = some (.cells #[(.slice Ao49 t436.length co49)] 30 (0, 0))) ∧ Aside0 (wc.heap[gb468]? = some (.cells #[(.slice Ao139 t464.length co139)] 30 (0, 0))) ∧ Aside0 (Below w.heap.size w wc))
                     case first =>
                      have H := HC122.out; clear HC122; replace H := Option.bind_eq_some_iff.mp H; obtain ⟨t469, A1450, H⟩ := H; replace H : (if t469 = true then (laws_FnExactCutRaws.j2 kj80 t455 (t467 != t427) t456) else (laws_FnExactCutRaws.j2 kj80 t455 true t456)) = some r := H; have A145 := Aside0.mk A1450; clear A1450; by_cases c146 : t469 = true
                      · subst c146; have H1 : (laws_FnExactCutRaws.j2 kj80 t455 (t467 != t427) t456) = some r := by rw [if_pos rfl] at H; exact H
                        clear H; have H := H1; clear H1; have H' := Aside0.mk H; clear H; have hnb147 := NB468_415.out; have hnc147 := NB415_468.out; have hnb148 := NB468_428.out; have hnc148 := NB428_468.out; have hnb149 := NB468_432.out; have hnc149 := NB432_468.out; have hnb150 := NB468_440.out; have hnc150 := NB440_468.out; obtain ⟨hcz151_0, hfz151_0⟩ := ba1 BK468; have hnb152 := NB428_415.out; have hnc152 := NB415_428.out; have hnb153 := NB428_432.out; have hnc153 := NB432_428.out; have hnb154 := NB428_440.out; have hnc154 := NB440_428.out; obtain ⟨hcz155_0, hfz155_0⟩ := ba1 BK428
                        go_wp2_with (first | ((with_reducible refine gate_callee (f := 17) rfl ?_); refine goesL_ (some 114) rfl rfl Try.func17 (by kernel_rfl) rfl #[.agg #[.slice Ao139 t464.length co139], .agg #[.slice Ao34 t424.length co34]] rfl t1_ ?_; (with_reducible refine (laws_eqDisk.calls kj80 _ _ t464 _ _ t424 true _ ?side1 ?side2 ?side3 ?side4 A145.out).mono ?_); (case side1 => refine (Kd.R_reads' (e := 71) (base := w.heap.size) (ok := fun k_ => ((((True ∧ some k_ ≠ (.slice Ao34 t424.length co34 : Value).ownBlock) ∧ some k_ ≠ (.slice Ao40 t451.length co40 : Value).ownBlock) ∧ some k_ ≠ (.slice Ao49 t436.length co49 : Value).ownBlock) ∧ some k_ ≠ (.slice Ao135 t458.length co135 : Value).ownBlock)) (n := t464.length) (c := co139) ?_).2.2; exact (rF HO466 BK468)); (case side2 => exact (Kd.R_reads' HO466.out).2.1); (case side3 => refine (Kd.R_reads' (e := 71) (base := w.heap.size) (ok := fun k_ => (((some k_ ≠ (.slice Ao40 t451.length co40 : Value).ownBlock ∧ some k_ ≠ (.slice Ao49 t436.length co49 : Value).ownBlock) ∧ some k_ ≠ (.slice Ao135 t458.length co135 : Value).ownBlock) ∧ some k_ ≠ (.slice Ao139 t464.length co139 : Value).ownBlock)) (n := t424.length) (c := co34) ?_).2.2; exact (rF HO_429000 BK468)); (case side4 => exact (Kd.R_reads' HO_429000.out).2.1); rintro e w156 ⟨rfl, hb⟩; refine ⟨_, rfl, ?_⟩; replace HO_429000 := Aside0.mk (Kd.R_below (rF HO_429000 BK468) hb); replace HO_433000 := Aside0.mk (Kd.R_below (rF HO_433000 BK468) hb); replace HO_441000 := Aside0.mk (Kd.R_below (rF HO_441000 BK468) hb); replace HO460 := Aside0.mk (Kd.R_below (rF HO460 BK468) hb); replace HO463 := Aside0.mk (Kd.R_below (rF HO463 BK468) hb); replace HO466 := Aside0.mk (Kd.R_below (rF HO466 BK468) hb); replace BK415 := bkF BK415 NB415_468 hb; replace BK428 := bkF BK428 NB428_468 hb; replace BK432 := bkF BK432 NB432_468 hb; replace BK440 := bkF BK440 NB440_468 hb; replace BK468 := Aside0.mk (blk_below (g := gb468) (o := .cells #[.slice Ao139 t464.length co139] 30 (0, 0)) (by (with_reducible repeat (first | refine blk_drewN ?_ _ | refine blk_drew ?_ | refine blk_alloc ?_ _)); refine blk_put (cs := #[.slice none 0 0]) ?_ 0 _ rfl; (with_reducible repeat (first | refine blk_drewN ?_ _ | refine blk_drew ?_ | refine blk_alloc ?_ _)); exact BK468.out) hb); replace HB := bS t39_ hb; (try clear hb)))
                        go_meet
                        case rel => exact ⟨_, ((t467 != t427)), t20_, H', ⟨by have := HJ21.out; have := HJ80.out; first | omega | exact Nat.le_refl _⟩, ⟨by (try simp only [hl433000_80]); (with_reducible repeat (first | apply Kd.R_alloc | apply Kd.R_drewN | apply Kd.R_drew)); exact Kd.R_mono HO_429000.out (fun _ hk => ⟨hk.1.1.1, ⟨hk.1.1.2, hk.2⟩⟩)⟩, ⟨by (try simp only [hl433000_80]); (with_reducible repeat (first | apply Kd.R_alloc | apply Kd.R_drewN | apply Kd.R_drew)); exact Kd.R_mono HO_433000.out (fun _ hk => ⟨hk.1.1.1, ⟨hk.1.1.2, hk.2⟩⟩)⟩, ⟨by (try simp only [hl433000_80]); (with_reducible repeat (first | apply Kd.R_alloc | apply Kd.R_drewN | apply Kd.R_drew)); exact Kd.R_mono HO_441000.out (fun _ hk => ⟨hk.1.1.1, ⟨hk.1.1.2, hk.2⟩⟩)⟩, ⟨by (try simp only [hl433000_80]); (with_reducible repeat (first | apply Kd.R_alloc | apply Kd.R_drewN | apply Kd.R_drew)); exact Kd.R_mono HO466.out (fun _ hk => ⟨hk.1.1.1.2, ⟨hk.1.1.2, hk.1.2⟩⟩)⟩, ⟨by (try simp only [hl433000_80]); (with_reducible repeat (first | refine blk_drewN ?_ _ | refine blk_drew ?_ | refine blk_alloc ?_ _)); exact BK415.out⟩, ⟨by (try simp only [hl433000_80]); (with_reducible repeat (first | refine blk_drewN ?_ _ | refine blk_drew ?_ | refine blk_alloc ?_ _)); exact BK428.out⟩, ⟨by (try simp only [hl433000_80]); (with_reducible repeat (first | refine blk_drewN ?_ _ | refine blk_drew ?_ | refine blk_alloc ?_ _)); exact BK432.out⟩, ⟨by (try simp only [hl433000_80]); (with_reducible repeat (first | refine blk_drewN ?_ _ | refine blk_drew ?_ | refine blk_alloc ?_ _)); exact BK440.out⟩, ⟨by (try simp only [hl433000_80]); (with_reducible repeat (first | refine blk_drewN ?_ _ | refine blk_drew ?_ | refine blk_alloc ?_ _)); exact BK468.out⟩, ⟨t39_⟩⟩
                      · replace c146 := Bool.eq_false_iff.mpr c146; subst c146; have H1 : (laws_FnExactCutRaws.j2 kj80 t455 true t456) = some r := by rw [if_neg (show ¬ (false = true) by decide)] at H; exact H
                        clear H; have H := H1; clear H1; have H' := Aside0.mk H; clear H; have hnb157 := NB468_415.out; have hnc157 := NB415_468.out; have hnb158 := NB468_428.out; have hnc158 := NB428_468.out; have hnb159 := NB468_432.out; have hnc159 := NB432_468.out; have hnb160 := NB468_440.out; have hnc160 := NB440_468.out; obtain ⟨hcz161_0, hfz161_0⟩ := ba1 BK468; have hnb162 := NB428_415.out; have hnc162 := NB415_428.out; have hnb163 := NB428_432.out; have hnc163 := NB432_428.out; have hnb164 := NB428_440.out; have hnc164 := NB440_428.out; obtain ⟨hcz165_0, hfz165_0⟩ := ba1 BK428
                        go_wp2_with (first | ((with_reducible refine gate_callee (f := 17) rfl ?_); refine goesL_ (some 114) rfl rfl Try.func17 (by kernel_rfl) rfl #[.agg #[.slice Ao139 t464.length co139], .agg #[.slice Ao34 t424.length co34]] rfl t1_ ?_; (with_reducible refine (laws_eqDisk.calls kj80 _ _ t464 _ _ t424 false _ ?side1 ?side2 ?side3 ?side4 A145.out).mono ?_); (case side1 => refine (Kd.R_reads' (e := 71) (base := w.heap.size) (ok := fun k_ => ((((True ∧ some k_ ≠ (.slice Ao34 t424.length co34 : Value).ownBlock) ∧ some k_ ≠ (.slice Ao40 t451.length co40 : Value).ownBlock) ∧ some k_ ≠ (.slice Ao49 t436.length co49 : Value).ownBlock) ∧ some k_ ≠ (.slice Ao135 t458.length co135 : Value).ownBlock)) (n := t464.length) (c := co139) ?_).2.2; exact (rF HO466 BK468)); (case side2 => exact (Kd.R_reads' HO466.out).2.1); (case side3 => refine (Kd.R_reads' (e := 71) (base := w.heap.size) (ok := fun k_ => (((some k_ ≠ (.slice Ao40 t451.length co40 : Value).ownBlock ∧ some k_ ≠ (.slice Ao49 t436.length co49 : Value).ownBlock) ∧ some k_ ≠ (.slice Ao135 t458.length co135 : Value).ownBlock) ∧ some k_ ≠ (.slice Ao139 t464.length co139 : Value).ownBlock)) (n := t424.length) (c := co34) ?_).2.2; exact (rF HO_429000 BK468)); (case side4 => exact (Kd.R_reads' HO_429000.out).2.1); rintro e w166 ⟨rfl, hb⟩; refine ⟨_, rfl, ?_⟩; replace HO_429000 := Aside0.mk (Kd.R_below (rF HO_429000 BK468) hb); replace HO_433000 := Aside0.mk (Kd.R_below (rF HO_433000 BK468) hb); replace HO_441000 := Aside0.mk (Kd.R_below (rF HO_441000 BK468) hb); replace HO460 := Aside0.mk (Kd.R_below (rF HO460 BK468) hb); replace HO463 := Aside0.mk (Kd.R_below (rF HO463 BK468) hb); replace HO466 := Aside0.mk (Kd.R_below (rF HO466 BK468) hb); replace BK415 := bkF BK415 NB415_468 hb; replace BK428 := bkF BK428 NB428_468 hb; replace BK432 := bkF BK432 NB432_468 hb; replace BK440 := bkF BK440 NB440_468 hb; replace BK468 := Aside0.mk (blk_below (g := gb468) (o := .cells #[.slice Ao139 t464.length co139] 30 (0, 0)) (by (with_reducible repeat (first | refine blk_drewN ?_ _ | refine blk_drew ?_ | refine blk_alloc ?_ _)); refine blk_put (cs := #[.slice none 0 0]) ?_ 0 _ rfl; (with_reducible repeat (first | refine blk_drewN ?_ _ | refine blk_drew ?_ | refine blk_alloc ?_ _)); exact BK468.out) hb); replace HB := bS t39_ hb; (try clear hb)))
                        go_meet
                        case rel => exact ⟨_, (true), t20_, H', ⟨by have := HJ21.out; have := HJ80.out; first | omega | exact Nat.le_refl _⟩, ⟨by (try simp only [hl433000_80]); (with_reducible repeat (first | apply Kd.R_alloc | apply Kd.R_drewN | apply Kd.R_drew)); exact Kd.R_mono HO_429000.out (fun _ hk => ⟨hk.1.1.1, ⟨hk.1.1.2, hk.2⟩⟩)⟩, ⟨by (try simp only [hl433000_80]); (with_reducible repeat (first | apply Kd.R_alloc | apply Kd.R_drewN | apply Kd.R_drew)); exact Kd.R_mono HO_433000.out (fun _ hk => ⟨hk.1.1.1, ⟨hk.1.1.2, hk.2⟩⟩)⟩, ⟨by (try simp only [hl433000_80]); (with_reducible repeat (first | apply Kd.R_alloc | apply Kd.R_drewN | apply Kd.R_drew)); exact Kd.R_mono HO_441000.out (fun _ hk => ⟨hk.1.1.1, ⟨hk.1.1.2, hk.2⟩⟩)⟩, ⟨by (try simp only [hl433000_80]); (with_reducible repeat (first | apply Kd.R_alloc | apply Kd.R_drewN | apply Kd.R_drew)); exact Kd.R_mono HO466.out (fun _ hk => ⟨hk.1.1.1.2, ⟨hk.1.1.2, hk.1.2⟩⟩)⟩, ⟨by (try simp only [hl433000_80]); (with_reducible repeat (first | refine blk_drewN ?_ _ | refine blk_drew ?_ | refine blk_alloc ?_ _)); exact BK415.out⟩, ⟨by (try simp only [hl433000_80]); (with_reducible repeat (first | refine blk_drewN ?_ _ | refine blk_drew ?_ | refine blk_alloc ?_ _)); exact BK428.out⟩, ⟨by (try simp only [hl433000_80]); (with_reducible repeat (first | refine blk_drewN ?_ _ | refine blk_drew ?_ | refine blk_alloc ?_ _)); exact BK432.out⟩, ⟨by (try simp only [hl433000_80]); (with_reducible repeat (first | refine blk_drewN ?_ _ | refine blk_drew ?_ | refine blk_alloc ?_ _)); exact BK440.out⟩, ⟨by (try simp only [hl433000_80]); (with_reducible repeat (first | refine blk_drewN ?_ _ | refine blk_drew ?_ | refine blk_alloc ?_ _)); exact BK468.out⟩, ⟨t39_⟩⟩
                     case rest =>
                      clear HC122
                      try clear c1
                      try clear c2
                      try clear p2
                      try clear c3
                      try clear c4
                      try clear c5
                      try clear c6
                      try clear c6b0
                      try clear c7
                      try clear c8
                      try clear c9
                      try clear c10
                      try clear c11
                      try clear c11b0
                      try clear c12
                      try clear c13
                      try clear c14
                      try clear c15
                      try clear c16
                      try clear c17
                      try clear c18
                      try clear c19
                      try clear c20
                      try clear c21
                      try clear c35
                      try clear c41
                      try clear c42
                      try clear c50
                      try clear c51
                      try clear c52
                      try clear c55
                      try clear c56
                      try clear c57
                      try clear c58
                      try clear c60
                      try clear c61
                      try clear c64
                      try clear c65
                      try clear c66
                      try clear c68
                      try clear c69
                      try clear c72
                      try clear c75
                      try clear c78
                      try clear c89
                      try clear c90
                      try clear c91
                      try clear c95
                      try clear c95b0
                      try clear c97
                      try clear c98
                      try clear c99
                      try clear c100
                      try clear c102
                      try clear c103
                      try clear c106
                      try clear c107
                      try clear c108
                      try clear c110
                      try clear c111
                      try clear c114
                      try clear c117
                      try clear c117b0
                      try clear c118
                      try clear c118b0
                      try clear c118b1
                      try clear c123
                      try clear c124
                      try clear c125
                      try clear c130
                      try clear c131
                      try clear c140
                      try clear c141
                      try clear c142
                      try clear c143
                      try clear c146
                      try clear c147
                      try clear c148
                      try clear c149
                      try clear c150
                      try clear c152
                      try clear c153
                      try clear c154
                      try clear c157
                      try clear c158
                      try clear c159
                      try clear c160
                      try clear c162
                      try clear c163
                      try clear c164
                      try clear hcz101_0
                      try clear hcz104_0
                      try clear hcz109_0
                      try clear hcz112_0
                      try clear hcz126_0
                      try clear hcz128_0
                      try clear hcz132_0
                      try clear hcz13_0
                      try clear hcz144_0
                      try clear hcz151_0
                      try clear hcz155_0
                      try clear hcz161_0
                      try clear hcz165_0
                      try clear hcz24_0
                      try clear hcz27_0
                      try clear hcz36_0
                      try clear hcz37_0
                      try clear hcz43_0
                      try clear hcz45_0
                      try clear hcz53_0
                      try clear hcz59_0
                      try clear hcz62_0
                      try clear hcz67_0
                      try clear hcz70_0
                      try clear hcz8_0
                      try clear hcz92_0
                      try clear hfz101_0
                      try clear hfz104_0
                      try clear hfz109_0
                      try clear hfz112_0
                      try clear hfz126_0
                      try clear hfz128_0
                      try clear hfz132_0
                      try clear hfz13_0
                      try clear hfz144_0
                      try clear hfz151_0
                      try clear hfz155_0
                      try clear hfz161_0
                      try clear hfz165_0
                      try clear hfz24_0
                      try clear hfz27_0
                      try clear hfz36_0
                      try clear hfz37_0
                      try clear hfz43_0
                      try clear hfz45_0
                      try clear hfz53_0
                      try clear hfz59_0
                      try clear hfz62_0
                      try clear hfz67_0
                      try clear hfz70_0
                      try clear hfz8_0
                      try clear hfz92_0
                      try clear p2
                      obtain ⟨kq, x120_121, rfl, HA, HJ121, HO_429000, HO_433000, HO_441000, HO_469000, BK415, BK428, BK432, BK440, BK468, HB⟩ := hcut; have hl441000_121 := (Kd.R_reads' HO_441000.out).1; rw [hl441000_121] at HO_441000
                      (try simp only [hl441000_121])
                      (try simp only [hl441000_121] at BK415)
                      (try simp only [hl441000_121] at BK428)
                      (try simp only [hl441000_121] at BK432)
                      (try simp only [hl441000_121] at BK440)
                      (try simp only [hl441000_121] at BK468)
                      (try simp only [hl441000_121] at HO_429000)
                      (try simp only [hl441000_121] at HO_433000)
                      (try simp only [hl441000_121] at HO_469000)
                      cases kq with
                      | zero => exact absurd HA.out (by simp [laws_FnExactCutRaws.j2])
                      | succ kj121 =>
                       have H := HA.out; clear HA; simp only [laws_FnExactCutRaws.j2] at H; by_cases c167 : x120_121 = true
                       · subst c167; have H1 : (none) = some r := by rw [if_pos rfl] at H; exact H
                         clear H; have H := H1; clear H1; exact absurd H (by simp)
                       · replace c167 := Bool.eq_false_iff.mpr c167; subst c167; have H1 : ((laws_heldDisk.f kj121 t456 1).bind fun t470 => (if t470 < 0 then (none) else (if t470 = t455 then (some true) else (none)))) = some r := by rw [if_neg (show ¬ (false = true) by decide)] at H; exact H
                         clear H; have H := H1; clear H1; replace H := Option.bind_eq_some_iff.mp H; obtain ⟨t470, A1680, H⟩ := H; replace H : (if t470 < 0 then (none) else (if t470 = t455 then (some true) else (none))) = some r := H; have A168 := Aside0.mk A1680; clear A1680; by_cases c169 : t470 < 0
                         · rw [if_pos c169] at H; exact absurd H (by simp)
                         · rw [if_neg c169] at H; have c169b0 : decide (t470 < 0) = false := decide_eq_false c169; clear c169; by_cases c170 : t470 = t455
                           · rw [if_pos c170] at H; have c170b0 : (t470 == t455) = true := beq_iff_eq.mpr c170; have c170b1 : (t470 != t455) = false := bne_eq_false_iff_eq.mpr c170; clear c170; obtain rfl := Option.some.inj H; have hnb171 := NB440_415.out; have hnc171 := NB415_440.out; have hnb172 := NB440_428.out; have hnc172 := NB428_440.out; have hnb173 := NB440_432.out; have hnc173 := NB432_440.out; have hnb174 := NB440_468.out; have hnc174 := NB468_440.out; obtain ⟨hcz175_0, hfz175_0⟩ := ba1 BK440
                             go_wp2_with (first | ((with_reducible refine gate_callee (f := 21) rfl ?_); refine goesL_ (some 123) rfl rfl Try.func21 (by kernel_rfl) rfl #[.agg #[.slice Ao49 t456.length co49], .int .i64 1] rfl t1_ ?_; (with_reducible refine (laws_heldDisk.calls kj121 _ _ t456 1 t470 _ ?side1 ?side2 A168.out).mono ?_); (case side1 => repeat (first | exact (Kd.R_reads' HO_441000.out).2.2 | (with_reducible refine Kd.C_alloc ?_ _) | (with_reducible refine Kd.C_drewN ?_ _) | (with_reducible refine Kd.C_drew ?_))); (case side2 => exact (Kd.R_reads' HO_441000.out).2.1); rintro e w176 ⟨rfl, hb⟩; refine ⟨_, rfl, ?_⟩; replace HO_429000 := Aside0.mk (Kd.R_below t40_ hb); replace HO_433000 := Aside0.mk (Kd.R_below t41_ hb); replace HO_441000 := Aside0.mk (Kd.R_below t42_ hb); replace HO_469000 := Aside0.mk (Kd.R_below (by (with_reducible repeat (first | apply Kd.R_alloc | apply Kd.R_drewN | apply Kd.R_drew)); exact HO_469000.out) hb); replace BK415 := bkN BK415 hb; replace BK428 := bkN BK428 hb; replace BK432 := bkN BK432 hb; replace BK440 := bkN BK440 hb; replace BK468 := bkN BK468 hb; replace HB := bS t39_ hb; (try clear hb)))
                             go_ret; exact ⟨by first | rfl | (simp [errW_none, errW_some] <;> rfl) | (simp [*, errW_none, errW_some] <;> rfl), t39_⟩
                           · rw [if_neg c170] at H; exact absurd H (by simp)
                   · rw [if_neg c118] at H; exact absurd H (by simp)
           · replace c78 := Bool.eq_false_iff.mpr c78; subst c78; have H1 : (none) = some r := by rw [if_neg (show ¬ (false = true) by decide)] at H; exact H
             clear H; have H := H1; clear H1; exact absurd H (by simp)
         · replace c75 := Bool.eq_false_iff.mpr c75; subst c75; have H1 : (none) = some r := by rw [if_neg (show ¬ (false = true) by decide)] at H; exact H
           clear H; have H := H1; clear H1; exact absurd H (by simp)

end Go.Proofs.Ytpjhbhjmaggheaa.QFnExactCutRaws
