-- By a program of this session, over the kit's print.
import Derived.Test.YtpjhbhjmaggheaaQFnExactPutRawsx0
import Derived.Test.YtpjhbhjmaggheaaQFnExactPutRawsx1
import Derived.Test.YtpjhbhjmaggheaaQFnExactPutRawsx2
import Derived.Test.YtpjhbhjmaggheaaQFnExactPutRawsx3
import Derived.Test.YtpjhbhjmaggheaaQFnExactPutRawsx6
import Derived.Test.YtpjhbhjmaggheaaQFnExactPutRawsx10
namespace Go.Proofs.Ytpjhbhjmaggheaa.QFnExactPutRaws
open Go.RowKit Go.Proofs.YtpjhbhjmaggheaaW.PrintWords Go.Proofs.YtpjhbhjmaggheaaW.PrintLast Go.Proofs.YtpjhbhjmaggheaaW.PrintMore
attribute [local go_sem] max2_int min2_int max_two min_two max_three min_three max_four min_four   -- for this text's walks alone
set_option linter.unusedVariables false
set_option linter.unusedSimpArgs false

/-! ### laws_FnExactPutRaws: function 9 -/
mutual
def laws_FnExactPutRaws.j0 : Nat → List (S73) → Int → List (S65) → Int → Bool → List (S136) → List (S71) → List (S71) → List (S71) → Option (Bool)
  | 0, _, _, _, _, _, _, _, _, _ => none
  | k + 1, x1, x7, x9, x11, x53, x350000, x363000, x367000, x375000 => if x53 = true then (none) else ((laws_toDisk.f k x350000).bind fun t376 => ((laws_eqDisk.f k x367000 t376).bind fun t379 => (if t379 = true then ((laws_toRawS.f k x1).bind fun t380 => ((laws_eqRawS.f k x9 t380).bind fun t383 => (if t383 = true then ((laws_markDisk.f k x367000 1).bind fun bt384 => ((laws_markRawS.f k x9 bt384.1).bind fun bt386 => (if bt386.1 < 0 then (laws_FnExactPutRaws.j1 k x1 x7 true x350000 x363000 x375000) else ((laws_eqDisk.f k x375000 x363000).bind fun t388 => (if t388 = true then (laws_FnExactPutRaws.j1 k x1 x7 (x11 != x7) x350000 x363000 x375000) else (laws_FnExactPutRaws.j1 k x1 x7 true x350000 x363000 x375000)))))) else (none)))) else (none))))
def laws_FnExactPutRaws.j1 : Nat → List (S73) → Int → Bool → List (S136) → List (S71) → List (S71) → Option (Bool)
  | 0, _, _, _, _, _, _ => none
  | k + 1, x1, x7, x82, x350000, x363000, x375000 => if x82 = true then (none) else ((laws_markDisk.f k x375000 1).bind fun bt389 => ((laws_heldDisk.f k bt389.2 1).bind fun t391 => (if t391 < 0 then (none) else (if t391 = bt389.1 then ((laws_toDisk.f k x350000).bind fun t392 => ((laws_toRawS.f k x1).bind fun t395 => ((impl_PutRaws.f k t392 t395).bind fun bt398 => ((laws_eqDisk.f k bt398.1 x363000).bind fun t403 => (if t403 = true then (laws_FnExactPutRaws.j2 k bt389.1 (bt398.2 != x7) bt389.2) else (laws_FnExactPutRaws.j2 k bt389.1 true bt389.2)))))) else (none)))))
def laws_FnExactPutRaws.j2 : Nat → Int → Bool → List (S71) → Option (Bool)
  | 0, _, _, _ => none
  | k + 1, x13, x110, x375000 => if x110 = true then (none) else ((laws_heldDisk.f k x375000 1).bind fun t404 => (if t404 < 0 then (none) else (if t404 = x13 then (some true) else (none))))
end
def laws_FnExactPutRaws.f (k : Nat) (l0_0 : List (S136)) (l1 : List (S73)) : Option (Bool) := (laws_szDisk.f k l0_0 1048576).bind fun t350 => (if t350 < 0 then (some true) else ((laws_szRawS.f k l1 t350).bind fun t351 => (if t351 < 0 then (some true) else ((laws_toDisk.f k l0_0).bind fun t352 => ((laws_toRawS.f k l1).bind fun t355 => ((spec_PutRaws.f k t352 t355).bind fun bt358 => ((laws_toDisk.f k l0_0).bind fun t363 => ((laws_toRawS.f k l1).bind fun t367 => ((impl_PutRaws.f k t363 t367).bind fun bt370 => ((laws_eqDisk.f k bt370.1 bt358.1).bind fun t375 => (if t375 = true then (laws_FnExactPutRaws.j0 k l1 bt358.2 t367 bt370.2 (bt370.2 != bt358.2) l0_0 bt358.1 t363 bt370.1) else (laws_FnExactPutRaws.j0 k l1 bt358.2 t367 bt370.2 true l0_0 bt358.1 t363 bt370.1))))))))))))
theorem laws_FnExactPutRaws.mono_l : ∀ k, (∀ y0 y1 y2 y3 y4 y5 y6 y7 y8, LeO (laws_FnExactPutRaws.j0 k y0 y1 y2 y3 y4 y5 y6 y7 y8) (laws_FnExactPutRaws.j0 (k + 1) y0 y1 y2 y3 y4 y5 y6 y7 y8)) ∧ (∀ y0 y1 y2 y3 y4 y5, LeO (laws_FnExactPutRaws.j1 k y0 y1 y2 y3 y4 y5) (laws_FnExactPutRaws.j1 (k + 1) y0 y1 y2 y3 y4 y5)) ∧ (∀ y0 y1 y2, LeO (laws_FnExactPutRaws.j2 k y0 y1 y2) (laws_FnExactPutRaws.j2 (k + 1) y0 y1 y2))
  | 0 => ⟨fun _ _ _ _ _ _ _ _ _ r h => by simp [laws_FnExactPutRaws.j0] at h, fun _ _ _ _ _ _ r h => by simp [laws_FnExactPutRaws.j1] at h, fun _ _ _ r h => by simp [laws_FnExactPutRaws.j2] at h⟩
  | k + 1 => by
    obtain ⟨ih0, ih1, ih2⟩ := laws_FnExactPutRaws.mono_l k
    refine ⟨?_, ?_, ?_⟩
    · intro y0 y1 y2 y3 y4 y5 y6 y7 y8
      unfold laws_FnExactPutRaws.j0
      repeat' first
      | (with_reducible exact ih0 _ _ _ _ _ _ _ _ _)
      | (with_reducible exact ih1 _ _ _ _ _ _)
      | (with_reducible exact ih2 _ _ _)
      | (with_reducible exact impl_PutRaws.mono _ _ _)
      | (with_reducible exact laws_eqDisk.mono _ _ _)
      | (with_reducible exact laws_eqRawS.mono _ _ _)
      | (with_reducible exact laws_heldDisk.mono _ _ _)
      | (with_reducible exact laws_markDisk.mono _ _ _)
      | (with_reducible exact laws_markRawS.mono _ _ _)
      | (with_reducible exact laws_szDisk.mono _ _ _)
      | (with_reducible exact laws_szRawS.mono _ _ _)
      | (with_reducible exact laws_toDisk.mono _ _)
      | (with_reducible exact laws_toRawS.mono _ _)
      | (with_reducible exact spec_PutRaws.mono _ _ _)
      | (with_reducible exact LeO.refl _)
      | (with_reducible exact LeO.none _)
      | (with_reducible refine LeO.ite ?_ ?_)
      | (with_reducible refine LeO.bind ?_ (fun _ => ?_))
      | exact ih0 _ _ _ _ _ _ _ _ _
      | exact ih1 _ _ _ _ _ _
      | exact ih2 _ _ _
      | exact impl_PutRaws.mono _ _ _
      | exact laws_eqDisk.mono _ _ _
      | exact laws_eqRawS.mono _ _ _
      | exact laws_heldDisk.mono _ _ _
      | exact laws_markDisk.mono _ _ _
      | exact laws_markRawS.mono _ _ _
      | exact laws_szDisk.mono _ _ _
      | exact laws_szRawS.mono _ _ _
      | exact laws_toDisk.mono _ _
      | exact laws_toRawS.mono _ _
      | exact spec_PutRaws.mono _ _ _
      | exact LeO.none _
      | refine LeO.ite ?_ ?_
      | refine LeO.bind ?_ (fun _ => ?_)
    · intro y0 y1 y2 y3 y4 y5
      unfold laws_FnExactPutRaws.j1
      repeat' first
      | (with_reducible exact ih0 _ _ _ _ _ _ _ _ _)
      | (with_reducible exact ih1 _ _ _ _ _ _)
      | (with_reducible exact ih2 _ _ _)
      | (with_reducible exact impl_PutRaws.mono _ _ _)
      | (with_reducible exact laws_eqDisk.mono _ _ _)
      | (with_reducible exact laws_eqRawS.mono _ _ _)
      | (with_reducible exact laws_heldDisk.mono _ _ _)
      | (with_reducible exact laws_markDisk.mono _ _ _)
      | (with_reducible exact laws_markRawS.mono _ _ _)
      | (with_reducible exact laws_szDisk.mono _ _ _)
      | (with_reducible exact laws_szRawS.mono _ _ _)
      | (with_reducible exact laws_toDisk.mono _ _)
      | (with_reducible exact laws_toRawS.mono _ _)
      | (with_reducible exact spec_PutRaws.mono _ _ _)
      | (with_reducible exact LeO.refl _)
      | (with_reducible exact LeO.none _)
      | (with_reducible refine LeO.ite ?_ ?_)
      | (with_reducible refine LeO.bind ?_ (fun _ => ?_))
      | exact ih0 _ _ _ _ _ _ _ _ _
      | exact ih1 _ _ _ _ _ _
      | exact ih2 _ _ _
      | exact impl_PutRaws.mono _ _ _
      | exact laws_eqDisk.mono _ _ _
      | exact laws_eqRawS.mono _ _ _
      | exact laws_heldDisk.mono _ _ _
      | exact laws_markDisk.mono _ _ _
      | exact laws_markRawS.mono _ _ _
      | exact laws_szDisk.mono _ _ _
      | exact laws_szRawS.mono _ _ _
      | exact laws_toDisk.mono _ _
      | exact laws_toRawS.mono _ _
      | exact spec_PutRaws.mono _ _ _
      | exact LeO.none _
      | refine LeO.ite ?_ ?_
      | refine LeO.bind ?_ (fun _ => ?_)
    · intro y0 y1 y2
      unfold laws_FnExactPutRaws.j2
      repeat' first
      | (with_reducible exact ih0 _ _ _ _ _ _ _ _ _)
      | (with_reducible exact ih1 _ _ _ _ _ _)
      | (with_reducible exact ih2 _ _ _)
      | (with_reducible exact impl_PutRaws.mono _ _ _)
      | (with_reducible exact laws_eqDisk.mono _ _ _)
      | (with_reducible exact laws_eqRawS.mono _ _ _)
      | (with_reducible exact laws_heldDisk.mono _ _ _)
      | (with_reducible exact laws_markDisk.mono _ _ _)
      | (with_reducible exact laws_markRawS.mono _ _ _)
      | (with_reducible exact laws_szDisk.mono _ _ _)
      | (with_reducible exact laws_szRawS.mono _ _ _)
      | (with_reducible exact laws_toDisk.mono _ _)
      | (with_reducible exact laws_toRawS.mono _ _)
      | (with_reducible exact spec_PutRaws.mono _ _ _)
      | (with_reducible exact LeO.refl _)
      | (with_reducible exact LeO.none _)
      | (with_reducible refine LeO.ite ?_ ?_)
      | (with_reducible refine LeO.bind ?_ (fun _ => ?_))
      | exact ih0 _ _ _ _ _ _ _ _ _
      | exact ih1 _ _ _ _ _ _
      | exact ih2 _ _ _
      | exact impl_PutRaws.mono _ _ _
      | exact laws_eqDisk.mono _ _ _
      | exact laws_eqRawS.mono _ _ _
      | exact laws_heldDisk.mono _ _ _
      | exact laws_markDisk.mono _ _ _
      | exact laws_markRawS.mono _ _ _
      | exact laws_szDisk.mono _ _ _
      | exact laws_szRawS.mono _ _ _
      | exact laws_toDisk.mono _ _
      | exact laws_toRawS.mono _ _
      | exact spec_PutRaws.mono _ _ _
      | exact LeO.none _
      | refine LeO.ite ?_ ?_
      | refine LeO.bind ?_ (fun _ => ?_)
theorem laws_FnExactPutRaws.mono : ∀ a0 a1 k, LeO (laws_FnExactPutRaws.f k a0 a1) (laws_FnExactPutRaws.f (k + 1) a0 a1) := by
  intro a0 a1 k
  obtain ⟨ih0, ih1, ih2⟩ := laws_FnExactPutRaws.mono_l k
  unfold laws_FnExactPutRaws.f
  repeat' first
      | (with_reducible exact ih0 _ _ _ _ _ _ _ _ _)
      | (with_reducible exact ih1 _ _ _ _ _ _)
      | (with_reducible exact ih2 _ _ _)
      | (with_reducible exact impl_PutRaws.mono _ _ _)
      | (with_reducible exact laws_eqDisk.mono _ _ _)
      | (with_reducible exact laws_eqRawS.mono _ _ _)
      | (with_reducible exact laws_heldDisk.mono _ _ _)
      | (with_reducible exact laws_markDisk.mono _ _ _)
      | (with_reducible exact laws_markRawS.mono _ _ _)
      | (with_reducible exact laws_szDisk.mono _ _ _)
      | (with_reducible exact laws_szRawS.mono _ _ _)
      | (with_reducible exact laws_toDisk.mono _ _)
      | (with_reducible exact laws_toRawS.mono _ _)
      | (with_reducible exact spec_PutRaws.mono _ _ _)
      | (with_reducible exact LeO.refl _)
      | (with_reducible exact LeO.none _)
      | (with_reducible refine LeO.ite ?_ ?_)
      | (with_reducible refine LeO.bind ?_ (fun _ => ?_))
      | exact ih0 _ _ _ _ _ _ _ _ _
      | exact ih1 _ _ _ _ _ _
      | exact ih2 _ _ _
      | exact impl_PutRaws.mono _ _ _
      | exact laws_eqDisk.mono _ _ _
      | exact laws_eqRawS.mono _ _ _
      | exact laws_heldDisk.mono _ _ _
      | exact laws_markDisk.mono _ _ _
      | exact laws_markRawS.mono _ _ _
      | exact laws_szDisk.mono _ _ _
      | exact laws_szRawS.mono _ _ _
      | exact laws_toDisk.mono _ _
      | exact laws_toRawS.mono _ _
      | exact spec_PutRaws.mono _ _ _
      | exact LeO.none _
      | refine LeO.ite ?_ ?_
      | refine LeO.bind ?_ (fun _ => ?_)
set_option maxHeartbeats 8000000 in
set_option maxRecDepth 100000 in
theorem laws_FnExactPutRaws.calls (k : Nat) (A0_0 : Option Addr) (c0_0 : Nat) (l0_0 : List (S136)) (A1 : Option Addr) (c1 : Nat) (l1 : List (S73)) (r : Bool) (w : World) (hr0_0 : Kd.C k136 w A0_0 l0_0.length l0_0) (hc0_0 : l0_0.length ≤ c0_0) (hr1 : Kd.C k73 w A1 l1.length l1) (hc1 : l1.length ≤ c1) (h : laws_FnExactPutRaws.f k l0_0 l1 = some r) :
    Calls Try.prog 9 #[.agg #[.slice A0_0 l0_0.length c0_0], .slice A1 l1.length c1] w fun e w' => e = .returned (.bool r) ∧ Below w.heap.size w w' := by
  have hu24 := Try.underlying24
  have hu30 := Try.underlying30
  have HR0_0 := Aside0.mk hr0_0
  have HC0_0 := Aside0.mk hc0_0
  clear hr0_0 hc0_0
  have HR1 := Aside0.mk hr1
  have HC1 := Aside0.mk hc1
  clear hr1 hc1
  have HB := Aside0.mk (Below.refl w.heap.size w)
  have H : ((laws_szDisk.f k l0_0 1048576).bind fun t350 => (if t350 < 0 then (some true) else ((laws_szRawS.f k l1 t350).bind fun t351 => (if t351 < 0 then (some true) else ((laws_toDisk.f k l0_0).bind fun t352 => ((laws_toRawS.f k l1).bind fun t355 => ((spec_PutRaws.f k t352 t355).bind fun bt358 => ((laws_toDisk.f k l0_0).bind fun t363 => ((laws_toRawS.f k l1).bind fun t367 => ((impl_PutRaws.f k t363 t367).bind fun bt370 => ((laws_eqDisk.f k bt370.1 bt358.1).bind fun t375 => (if t375 = true then (laws_FnExactPutRaws.j0 k l1 bt358.2 t367 bt370.2 (bt370.2 != bt358.2) l0_0 bt358.1 t363 bt370.1) else (laws_FnExactPutRaws.j0 k l1 bt358.2 t367 bt370.2 true l0_0 bt358.1 t363 bt370.1))))))))))))) = some r := h
  clear h
  replace H := Option.bind_eq_some_iff.mp H
  obtain ⟨t350, A30, H⟩ := H
  replace H : (if t350 < 0 then (some true) else ((laws_szRawS.f k l1 t350).bind fun t351 => (if t351 < 0 then (some true) else ((laws_toDisk.f k l0_0).bind fun t352 => ((laws_toRawS.f k l1).bind fun t355 => ((spec_PutRaws.f k t352 t355).bind fun bt358 => ((laws_toDisk.f k l0_0).bind fun t363 => ((laws_toRawS.f k l1).bind fun t367 => ((impl_PutRaws.f k t363 t367).bind fun bt370 => ((laws_eqDisk.f k bt370.1 bt358.1).bind fun t375 => (if t375 = true then (laws_FnExactPutRaws.j0 k l1 bt358.2 t367 bt370.2 (bt370.2 != bt358.2) l0_0 bt358.1 t363 bt370.1) else (laws_FnExactPutRaws.j0 k l1 bt358.2 t367 bt370.2 true l0_0 bt358.1 t363 bt370.1)))))))))))) = some r := H
  have A3 := Aside0.mk A30
  clear A30
  by_cases c4 : t350 < 0
  · rw [if_pos c4] at H
    have c4b0 : decide (t350 < 0) = true := decide_eq_true c4
    clear c4
    obtain rfl := Option.some.inj H
    go_enter Try.func9, Try.ntmps9
    go_wp2_with (first | ((with_reducible refine gate_dst (N := 2) rfl ?_); refine boxE (N := 2) (cs := #[.slice A0_0 l0_0.length c0_0]) (t := 24) (h := ?_); intro gb349 hg w5 hbox hb; have BK349 := Aside0.mk (hbox); have GW349 := Aside0.mk ((t4_ : w.heap.size ≤ gb349)); have GE349 := Aside0.mk ((t4_ : w.heap.size ≤ gb349)); replace HB := Aside0.mk (below_step t0_ hb); clear hb hbox hg; have hcz6_0 := bc0 BK349; have hfz6_0 := bf BK349 0) | ((with_reducible refine gate_callee (f := 11) rfl ?_); refine goesL_ (some 19) rfl rfl Try.func11 (by kernel_rfl) rfl #[.agg #[.slice A0_0 l0_0.length c0_0], .int .i64 1048576] rfl t1_ ?_; (with_reducible refine (laws_szDisk.calls k _ _ l0_0 1048576 t350 _ ?side1 ?side2 A3.out).mono ?_); (case side1 => exact cB HR0_0 HB); (case side2 => exact HC0_0.out); rintro e w7 ⟨rfl, hb⟩; refine ⟨_, rfl, ?_⟩; replace BK349 := bkN BK349 hb; replace HB := Aside0.mk (below_step t21_ hb); (try clear hb); (try clear hb2); (try clear hk); (try clear hi)))
    go_ret
    exact ⟨by first | rfl | (simp [errW_none, errW_some] <;> rfl) | (simp [*, errW_none, errW_some] <;> rfl), t21_⟩
  · rw [if_neg c4] at H
    have c4b0 : decide (t350 < 0) = false := decide_eq_false c4
    clear c4
    replace H := Option.bind_eq_some_iff.mp H
    obtain ⟨t351, A80, H⟩ := H
    replace H : (if t351 < 0 then (some true) else ((laws_toDisk.f k l0_0).bind fun t352 => ((laws_toRawS.f k l1).bind fun t355 => ((spec_PutRaws.f k t352 t355).bind fun bt358 => ((laws_toDisk.f k l0_0).bind fun t363 => ((laws_toRawS.f k l1).bind fun t367 => ((impl_PutRaws.f k t363 t367).bind fun bt370 => ((laws_eqDisk.f k bt370.1 bt358.1).bind fun t375 => (if t375 = true then (laws_FnExactPutRaws.j0 k l1 bt358.2 t367 bt370.2 (bt370.2 != bt358.2) l0_0 bt358.1 t363 bt370.1) else (laws_FnExactPutRaws.j0 k l1 bt358.2 t367 bt370.2 true l0_0 bt358.1 t363 bt370.1)))))))))) = some r := H
    have A8 := Aside0.mk A80
    clear A80
    by_cases c9 : t351 < 0
    · rw [if_pos c9] at H
      have c9b0 : decide (t351 < 0) = true := decide_eq_true c9
      clear c9
      obtain rfl := Option.some.inj H
      go_enter Try.func9, Try.ntmps9
      go_wp2_with (first | ((with_reducible refine gate_dst (N := 2) rfl ?_); refine boxE (N := 2) (cs := #[.slice A0_0 l0_0.length c0_0]) (t := 24) (h := ?_); intro gb349 hg w10 hbox hb; have BK349 := Aside0.mk (hbox); have GW349 := Aside0.mk ((t4_ : w.heap.size ≤ gb349)); have GE349 := Aside0.mk ((t4_ : w.heap.size ≤ gb349)); replace HB := Aside0.mk (below_step t0_ hb); clear hb hbox hg; have hcz11_0 := bc0 BK349; have hfz11_0 := bf BK349 0) | ((with_reducible refine gate_callee (f := 11) rfl ?_); refine goesL_ (some 19) rfl rfl Try.func11 (by kernel_rfl) rfl #[.agg #[.slice A0_0 l0_0.length c0_0], .int .i64 1048576] rfl t1_ ?_; (with_reducible refine (laws_szDisk.calls k _ _ l0_0 1048576 t350 _ ?side1 ?side2 A3.out).mono ?_); (case side1 => exact cB HR0_0 HB); (case side2 => exact HC0_0.out); rintro e w12 ⟨rfl, hb⟩; refine ⟨_, rfl, ?_⟩; replace BK349 := bkN BK349 hb; replace HB := Aside0.mk (below_step t21_ hb); (try clear hb); (try clear hb2); (try clear hk); (try clear hi)) | ((with_reducible refine gate_callee (f := 12) rfl ?_); refine goesL_ (some 24) rfl rfl Try.func12 (by kernel_rfl) rfl #[.slice A1 l1.length c1, .int .i64 t350] rfl t1_ ?_; (with_reducible refine (laws_szRawS.calls k _ _ l1 t350 t351 _ ?side1 ?side2 A8.out).mono ?_); (case side1 => exact cB HR1 HB); (case side2 => exact HC1.out); rintro e w13 ⟨rfl, hb⟩; refine ⟨_, rfl, ?_⟩; replace BK349 := bkN BK349 hb; replace HB := Aside0.mk (below_step t21_ hb); (try clear hb); (try clear hb2); (try clear hk); (try clear hi)))
      go_ret
      exact ⟨by first | rfl | (simp [errW_none, errW_some] <;> rfl) | (simp [*, errW_none, errW_some] <;> rfl), t21_⟩
    · rw [if_neg c9] at H
      have c9b0 : decide (t351 < 0) = false := decide_eq_false c9
      clear c9
      replace H := Option.bind_eq_some_iff.mp H
      obtain ⟨t352, A140, H⟩ := H
      replace H : ((laws_toRawS.f k l1).bind fun t355 => ((spec_PutRaws.f k t352 t355).bind fun bt358 => ((laws_toDisk.f k l0_0).bind fun t363 => ((laws_toRawS.f k l1).bind fun t367 => ((impl_PutRaws.f k t363 t367).bind fun bt370 => ((laws_eqDisk.f k bt370.1 bt358.1).bind fun t375 => (if t375 = true then (laws_FnExactPutRaws.j0 k l1 bt358.2 t367 bt370.2 (bt370.2 != bt358.2) l0_0 bt358.1 t363 bt370.1) else (laws_FnExactPutRaws.j0 k l1 bt358.2 t367 bt370.2 true l0_0 bt358.1 t363 bt370.1)))))))) = some r := H
      have A14 := Aside0.mk A140
      clear A140
      replace H := Option.bind_eq_some_iff.mp H
      obtain ⟨t355, A150, H⟩ := H
      replace H : ((spec_PutRaws.f k t352 t355).bind fun bt358 => ((laws_toDisk.f k l0_0).bind fun t363 => ((laws_toRawS.f k l1).bind fun t367 => ((impl_PutRaws.f k t363 t367).bind fun bt370 => ((laws_eqDisk.f k bt370.1 bt358.1).bind fun t375 => (if t375 = true then (laws_FnExactPutRaws.j0 k l1 bt358.2 t367 bt370.2 (bt370.2 != bt358.2) l0_0 bt358.1 t363 bt370.1) else (laws_FnExactPutRaws.j0 k l1 bt358.2 t367 bt370.2 true l0_0 bt358.1 t363 bt370.1))))))) = some r := H
      have A15 := Aside0.mk A150
      clear A150
      replace H := Option.bind_eq_some_iff.mp H
      obtain ⟨⟨t358, t361⟩, A160, H⟩ := H
      replace H : ((laws_toDisk.f k l0_0).bind fun t363 => ((laws_toRawS.f k l1).bind fun t367 => ((impl_PutRaws.f k t363 t367).bind fun bt370 => ((laws_eqDisk.f k bt370.1 t358).bind fun t375 => (if t375 = true then (laws_FnExactPutRaws.j0 k l1 t361 t367 bt370.2 (bt370.2 != t361) l0_0 t358 t363 bt370.1) else (laws_FnExactPutRaws.j0 k l1 t361 t367 bt370.2 true l0_0 t358 t363 bt370.1)))))) = some r := H
      have A16 := Aside0.mk A160
      clear A160
      replace H := Option.bind_eq_some_iff.mp H
      obtain ⟨t363, A170, H⟩ := H
      replace H : ((laws_toRawS.f k l1).bind fun t367 => ((impl_PutRaws.f k t363 t367).bind fun bt370 => ((laws_eqDisk.f k bt370.1 t358).bind fun t375 => (if t375 = true then (laws_FnExactPutRaws.j0 k l1 t361 t367 bt370.2 (bt370.2 != t361) l0_0 t358 t363 bt370.1) else (laws_FnExactPutRaws.j0 k l1 t361 t367 bt370.2 true l0_0 t358 t363 bt370.1))))) = some r := H
      have A17 := Aside0.mk A170
      clear A170
      replace H := Option.bind_eq_some_iff.mp H
      obtain ⟨t367, A180, H⟩ := H
      replace H : ((impl_PutRaws.f k t363 t367).bind fun bt370 => ((laws_eqDisk.f k bt370.1 t358).bind fun t375 => (if t375 = true then (laws_FnExactPutRaws.j0 k l1 t361 t367 bt370.2 (bt370.2 != t361) l0_0 t358 t363 bt370.1) else (laws_FnExactPutRaws.j0 k l1 t361 t367 bt370.2 true l0_0 t358 t363 bt370.1)))) = some r := H
      have A18 := Aside0.mk A180
      clear A180
      replace H := Option.bind_eq_some_iff.mp H
      obtain ⟨⟨t370, t373⟩, A190, H⟩ := H
      replace H : ((laws_eqDisk.f k t370 t358).bind fun t375 => (if t375 = true then (laws_FnExactPutRaws.j0 k l1 t361 t367 t373 (t373 != t361) l0_0 t358 t363 t370) else (laws_FnExactPutRaws.j0 k l1 t361 t367 t373 true l0_0 t358 t363 t370))) = some r := H
      have A19 := Aside0.mk A190
      clear A190
      have HC20 := Aside0.mk H
      clear H
      go_enter Try.func9, Try.ntmps9
      go_upto_region 12 with (first | ((with_reducible refine gate_dst (N := 2) rfl ?_); refine boxE (N := 2) (cs := #[.slice A0_0 l0_0.length c0_0]) (t := 24) (h := ?_); intro gb349 hg w21 hbox hb; have BK349 := Aside0.mk (hbox); have GW349 := Aside0.mk ((t4_ : w.heap.size ≤ gb349)); have GE349 := Aside0.mk ((t4_ : w.heap.size ≤ gb349)); replace HB := Aside0.mk (below_step t0_ hb); clear hb hbox hg; have hcz22_0 := bc0 BK349; have hfz22_0 := bf BK349 0) | ((with_reducible refine gate_callee (f := 11) rfl ?_); refine goesL_ (some 19) rfl rfl Try.func11 (by kernel_rfl) rfl #[.agg #[.slice A0_0 l0_0.length c0_0], .int .i64 1048576] rfl t1_ ?_; (with_reducible refine (laws_szDisk.calls k _ _ l0_0 1048576 t350 _ ?side1 ?side2 A3.out).mono ?_); (case side1 => exact cB HR0_0 HB); (case side2 => exact HC0_0.out); rintro e w23 ⟨rfl, hb⟩; refine ⟨_, rfl, ?_⟩; replace BK349 := bkN BK349 hb; replace HB := Aside0.mk (below_step t21_ hb); (try clear hb); (try clear hb2); (try clear hk); (try clear hi)) | ((with_reducible refine gate_callee (f := 12) rfl ?_); refine goesL_ (some 24) rfl rfl Try.func12 (by kernel_rfl) rfl #[.slice A1 l1.length c1, .int .i64 t350] rfl t1_ ?_; (with_reducible refine (laws_szRawS.calls k _ _ l1 t350 t351 _ ?side1 ?side2 A8.out).mono ?_); (case side1 => exact cB HR1 HB); (case side2 => exact HC1.out); rintro e w24 ⟨rfl, hb⟩; refine ⟨_, rfl, ?_⟩; replace BK349 := bkN BK349 hb; replace HB := Aside0.mk (below_step t21_ hb); (try clear hb); (try clear hb2); (try clear hk); (try clear hi); have hcz25_0 := bc0 BK349; have hfz25_0 := bf BK349 0) | ((with_reducible refine gate_callee (f := 14) rfl ?_); refine goesL_ (some 29) rfl rfl Try.func14 (by kernel_rfl) rfl #[.agg #[.slice A0_0 l0_0.length c0_0]] rfl t1_ ?_; (with_reducible refine (laws_toDisk.calls k _ _ l0_0 t352 _ ?side1 ?side2 A14.out).mono ?_); (case side1 => exact cB HR0_0 HB); (case side2 => exact HC0_0.out); rintro e w26 ⟨v353, rfl, ho0, hb⟩; refine ⟨_, rfl, ?_⟩; have HO354 := Aside0.mk (Kd.R_lower ho0 (below_size t21_)); replace BK349 := bkN BK349 hb; replace HB := Aside0.mk (below_step t21_ hb); (try clear hb); (try clear hb2); (try clear hk); (try clear hi); (try clear ho0)) | ((with_reducible refine gate_callee (f := 15) rfl ?_); refine goesL_ (some 31) rfl rfl Try.func15 (by kernel_rfl) rfl #[.slice A1 l1.length c1] rfl t1_ ?_; (with_reducible refine (laws_toRawS.calls k _ _ l1 t355 _ ?side1 ?side2 A15.out).mono ?_); (case side1 => exact cB HR1 HB); (case side2 => exact HC1.out); rintro e w27 ⟨v356, rfl, ho0, hb⟩; refine ⟨_, rfl, ?_⟩; replace HO354 := Aside0.mk (Kd.R_below t56_ hb); have HO357 := Aside0.mk (Kd.R_lower ho0 (below_size t21_)); replace BK349 := bkN BK349 hb; replace HB := Aside0.mk (below_step t21_ hb); (try clear hb); (try clear hb2); (try clear hk); (try clear hi); (try clear ho0); obtain ⟨Ao28, co28, eo28⟩ := Kd.R_slice HO354.out; subst eo28; obtain ⟨Ao29, co29, eo29⟩ := Kd.R_slice HO357.out; subst eo29) | ((with_reducible refine gate_callee (f := 39) rfl ?_); refine goesL_ (some 32) rfl rfl Try.func39 (by kernel_rfl) rfl #[.agg #[.slice Ao28 t352.length co28], .slice Ao29 t355.length co29] rfl t1_ ?_; (with_reducible refine (spec_PutRaws.calls k _ _ t352 _ _ t355 t358 t361 _ ?side1 ?side2 ?side3 ?side4 A16.out).mono ?_); (case side1 => repeat (first | exact (Kd.R_reads' HO354.out).2.2 | (with_reducible refine Kd.C_alloc ?_ _) | (with_reducible refine Kd.C_drewN ?_ _) | (with_reducible refine Kd.C_drew ?_))); (case side2 => exact (Kd.R_reads' HO354.out).2.1); (case side3 => repeat (first | exact (Kd.R_reads' HO357.out).2.2 | (with_reducible refine Kd.C_alloc ?_ _) | (with_reducible refine Kd.C_drewN ?_ _) | (with_reducible refine Kd.C_drew ?_))); (case side4 => exact (Kd.R_reads' HO357.out).2.1); rintro e w30 ⟨v359, rfl, ho0, hb⟩; refine ⟨_, rfl, ?_⟩; replace HO357 := Aside0.mk (Kd.R_below t69_ hb); have HO360 := Aside0.mk (Kd.R_lower (Kd.R_new' ho0 (Kd.R_lt t56_)) (below_size t21_)); replace HO354 := Aside0.mk (Kd.R_elder' t56_ (Kd.R_base ho0) hb); replace BK349 := bkN BK349 hb; replace HB := Aside0.mk (below_step t21_ hb); (try clear hb); (try clear hb2); (try clear hk); (try clear hi); (try clear ho0)) | ((with_reducible refine gate_dst (N := 6) rfl ?_); refine boxE (N := 6) (cs := #[.slice none 0 0]) (t := 30) (h := ?_); intro gb362 hg w31 hbox hb; replace HO354 := Aside0.mk (Kd.R_below t56_ hb); replace HO357 := Aside0.mk (Kd.R_below t69_ hb); replace HO360 := Aside0.mk (Kd.R_below t70_ hb); have BK362 := Aside0.mk (hbox); have GW362 := Aside0.mk ((by rw [hg]; exact (below_size t21_) : w.heap.size ≤ gb362)); have GE362 := Aside0.mk ((by rw [hg]; exact (below_size t21_) : w.heap.size ≤ gb362)); replace HB := Aside0.mk (below_step t21_ hb); have NB349_362 := nbL BK349 hg; have NB362_349 := nbG BK349 hg; replace BK349 := bkN BK349 hb; clear hb hbox hg; obtain ⟨Ao32, co32, eo32⟩ := Kd.R_slice HO360.out; subst eo32; have hnb33 := NB362_349.out; have hnc33 := NB349_362.out; have hcz34_0 := bc0 BK362; have hfz34_0 := bf BK362 0; have hcz35_0 := bc0 BK349; have hfz35_0 := bf BK349 0) | ((with_reducible refine gate_callee (f := 14) rfl ?_); refine goesL_ (some 36) rfl rfl Try.func14 (by kernel_rfl) rfl #[.agg #[.slice A0_0 l0_0.length c0_0]] rfl t1_ ?_; (with_reducible refine (laws_toDisk.calls k _ _ l0_0 t363 _ ?side1 ?side2 A17.out).mono ?_); (case side1 => exact Kd.C_below HR0_0.out t47_); (case side2 => exact HC0_0.out); rintro e w36 ⟨v364, rfl, ho0, hb⟩; refine ⟨_, rfl, ?_⟩; replace HO357 := Aside0.mk (Kd.R_below (by (with_reducible repeat (first | apply Kd.R_alloc | apply Kd.R_drewN | apply Kd.R_drew)); exact (Kd.R_mono (Kd.R_far (p := ⟨gb362, 0, none⟩) (Kd.R_types HO357.out BK362.out (by decide)) (fun _ hk => hk.2) (.slice Ao32 t358.length co32)) (fun _ h_ => h_.1))) hb); have HO365 := Aside0.mk (Kd.R_lower (Kd.R_new' (Kd.R_new' ho0 (Kd.R_lt (by (with_reducible repeat (first | apply Kd.R_alloc | apply Kd.R_drewN | apply Kd.R_drew)); exact (Kd.R_mono (Kd.R_far (p := ⟨gb362, 0, none⟩) (Kd.R_types HO354.out BK362.out (by decide)) (fun _ hk => hk.2) (.slice Ao32 t358.length co32)) (fun _ h_ => h_.1))))) (Kd.R_lt (by (with_reducible repeat (first | apply Kd.R_alloc | apply Kd.R_drewN | apply Kd.R_drew)); exact (Kd.R_mono (Kd.R_far (p := ⟨gb362, 0, none⟩) (Kd.R_types HO360.out BK362.out (by decide)) (fun _ hk => hk.2) (.slice Ao32 t358.length co32)) (fun _ h_ => h_.1))))) (below_size t47_)); replace HO354 := Aside0.mk (Kd.R_elder' (by (with_reducible repeat (first | apply Kd.R_alloc | apply Kd.R_drewN | apply Kd.R_drew)); exact (Kd.R_mono (Kd.R_far (p := ⟨gb362, 0, none⟩) (Kd.R_types HO354.out BK362.out (by decide)) (fun _ hk => hk.2) (.slice Ao32 t358.length co32)) (fun _ h_ => h_.1))) (Kd.R_base ho0) hb); replace HO360 := Aside0.mk (Kd.R_elder' (by (with_reducible repeat (first | apply Kd.R_alloc | apply Kd.R_drewN | apply Kd.R_drew)); exact (Kd.R_mono (Kd.R_far (p := ⟨gb362, 0, none⟩) (Kd.R_types HO360.out BK362.out (by decide)) (fun _ hk => hk.2) (.slice Ao32 t358.length co32)) (fun _ h_ => h_.1))) (Kd.R_base ho0) hb); replace BK349 := bkF BK349 NB349_362 hb; replace BK362 := Aside0.mk (blk_below (g := gb362) (o := .cells #[.slice Ao32 t358.length co32] 30 (0, 0)) (by (with_reducible repeat (first | refine blk_drewN ?_ _ | refine blk_drew ?_ | refine blk_alloc ?_ _)); refine blk_put (cs := #[.slice none 0 0]) ?_ 0 _ rfl; (with_reducible repeat (first | refine blk_drewN ?_ _ | refine blk_drew ?_ | refine blk_alloc ?_ _)); exact BK362.out) hb); replace HB := Aside0.mk (below_step t47_ hb); (try clear hb); (try clear hb2); (try clear hk); (try clear hi); (try clear ho0)) | ((with_reducible refine gate_dst (N := 8) rfl ?_); refine boxE (N := 8) (cs := #[.slice none 0 0]) (t := 30) (h := ?_); intro gb366 hg w37 hbox hb; replace HO354 := Aside0.mk (Kd.R_below t56_ hb); replace HO357 := Aside0.mk (Kd.R_below t69_ hb); replace HO360 := Aside0.mk (Kd.R_below t70_ hb); replace HO365 := Aside0.mk (Kd.R_below t76_ hb); have BK366 := Aside0.mk (hbox); have GW366 := Aside0.mk ((by rw [hg]; exact (below_size t47_) : w.heap.size ≤ gb366)); have GE366 := Aside0.mk ((by rw [hg]; exact (below_size t47_) : w.heap.size ≤ gb366)); replace HB := Aside0.mk (below_step t47_ hb); have NB349_366 := nbL BK349 hg; have NB366_349 := nbG BK349 hg; replace BK349 := bkN BK349 hb; have NB362_366 := nbL BK362 hg; have NB366_362 := nbG BK362 hg; replace BK362 := bkN BK362 hb; clear hb hbox hg; obtain ⟨Ao38, co38, eo38⟩ := Kd.R_slice HO365.out; subst eo38; have hnb39 := NB366_349.out; have hnc39 := NB349_366.out; have hnb40 := NB366_362.out; have hnc40 := NB362_366.out; have hcz41_0 := bc0 BK366; have hfz41_0 := bf BK366 0) | ((with_reducible refine gate_callee (f := 15) rfl ?_); refine goesL_ (some 38) rfl rfl Try.func15 (by kernel_rfl) rfl #[.slice A1 l1.length c1] rfl t1_ ?_; (with_reducible refine (laws_toRawS.calls k _ _ l1 t367 _ ?side1 ?side2 A18.out).mono ?_); (case side1 => exact Kd.C_below HR1.out t32_); (case side2 => exact HC1.out); rintro e w42 ⟨v368, rfl, ho0, hb⟩; refine ⟨_, rfl, ?_⟩; replace HO354 := Aside0.mk (Kd.R_below (by (with_reducible repeat (first | apply Kd.R_alloc | apply Kd.R_drewN | apply Kd.R_drew)); exact (Kd.R_mono (Kd.R_far (p := ⟨gb366, 0, none⟩) (Kd.R_types HO354.out BK366.out (by decide)) (fun _ hk => hk.2) (.slice Ao38 t363.length co38)) (fun _ h_ => h_.1))) hb); replace HO360 := Aside0.mk (Kd.R_below (by (with_reducible repeat (first | apply Kd.R_alloc | apply Kd.R_drewN | apply Kd.R_drew)); exact (Kd.R_mono (Kd.R_far (p := ⟨gb366, 0, none⟩) (Kd.R_types HO360.out BK366.out (by decide)) (fun _ hk => hk.2) (.slice Ao38 t363.length co38)) (fun _ h_ => h_.1))) hb); replace HO365 := Aside0.mk (Kd.R_below (by (with_reducible repeat (first | apply Kd.R_alloc | apply Kd.R_drewN | apply Kd.R_drew)); exact (Kd.R_mono (Kd.R_far (p := ⟨gb366, 0, none⟩) (Kd.R_types HO365.out BK366.out (by decide)) (fun _ hk => hk.2) (.slice Ao38 t363.length co38)) (fun _ h_ => h_.1))) hb); have HO369 := Aside0.mk (Kd.R_lower (Kd.R_new' ho0 (Kd.R_lt (by (with_reducible repeat (first | apply Kd.R_alloc | apply Kd.R_drewN | apply Kd.R_drew)); exact (Kd.R_mono (Kd.R_far (p := ⟨gb366, 0, none⟩) (Kd.R_types HO357.out BK366.out (by decide)) (fun _ hk => hk.2) (.slice Ao38 t363.length co38)) (fun _ h_ => h_.1))))) (below_size t32_)); replace HO357 := Aside0.mk (Kd.R_elder' (by (with_reducible repeat (first | apply Kd.R_alloc | apply Kd.R_drewN | apply Kd.R_drew)); exact (Kd.R_mono (Kd.R_far (p := ⟨gb366, 0, none⟩) (Kd.R_types HO357.out BK366.out (by decide)) (fun _ hk => hk.2) (.slice Ao38 t363.length co38)) (fun _ h_ => h_.1))) (Kd.R_base ho0) hb); replace BK349 := bkF BK349 NB349_366 hb; replace BK362 := bkF BK362 NB362_366 hb; replace BK366 := Aside0.mk (blk_below (g := gb366) (o := .cells #[.slice Ao38 t363.length co38] 30 (0, 0)) (by (with_reducible repeat (first | refine blk_drewN ?_ _ | refine blk_drew ?_ | refine blk_alloc ?_ _)); refine blk_put (cs := #[.slice none 0 0]) ?_ 0 _ rfl; (with_reducible repeat (first | refine blk_drewN ?_ _ | refine blk_drew ?_ | refine blk_alloc ?_ _)); exact BK366.out) hb); replace HB := Aside0.mk (below_step t32_ hb); (try clear hb); (try clear hb2); (try clear hk); (try clear hi); (try clear ho0); have hcz43_0 := bc0 BK366; have hfz43_0 := bf BK366 0; obtain ⟨Ao44, co44, eo44⟩ := Kd.R_slice HO369.out; subst eo44) | ((with_reducible refine gate_callee (f := 31) rfl ?_); refine goesL_ (some 42) rfl rfl Try.func31 (by kernel_rfl) rfl #[.agg #[.slice Ao38 t363.length co38], .slice Ao44 t367.length co44] rfl t1_ ?_; (with_reducible refine (impl_PutRaws.calls k _ _ t363 _ _ t367 t370 t373 _ ?side1 ?side2 ?side3 ?side4 A19.out).mono ?_); (case side1 => repeat (first | exact (Kd.R_reads' HO365.out).2.2 | (with_reducible refine Kd.C_alloc ?_ _) | (with_reducible refine Kd.C_drewN ?_ _) | (with_reducible refine Kd.C_drew ?_))); (case side2 => exact (Kd.R_reads' HO365.out).2.1); (case side3 => repeat (first | exact (Kd.R_reads' HO369.out).2.2 | (with_reducible refine Kd.C_alloc ?_ _) | (with_reducible refine Kd.C_drewN ?_ _) | (with_reducible refine Kd.C_drew ?_))); (case side4 => exact (Kd.R_reads' HO369.out).2.1); rintro e w45 ⟨v371, rfl, ho0, hb⟩; refine ⟨_, rfl, ?_⟩; replace HO357 := Aside0.mk (Kd.R_below t69_ hb); replace HO369 := Aside0.mk (Kd.R_below (by (with_reducible repeat (first | apply Kd.R_alloc | apply Kd.R_drewN | apply Kd.R_drew)); exact HO369.out) hb); have HO372 := Aside0.mk (Kd.R_lower (Kd.R_new' (Kd.R_new' (Kd.R_new' ho0 (Kd.R_lt t56_)) (Kd.R_lt t70_)) (Kd.R_lt t76_)) (below_size t32_)); replace HO354 := Aside0.mk (Kd.R_elder' t56_ (Kd.R_base ho0) hb); replace HO360 := Aside0.mk (Kd.R_elder' t70_ (Kd.R_base ho0) hb); replace HO365 := Aside0.mk (Kd.R_elder' t76_ (Kd.R_base ho0) hb); replace BK349 := bkN BK349 hb; replace BK362 := bkN BK362 hb; replace BK366 := bkN BK366 hb; replace HB := Aside0.mk (below_step t32_ hb); (try clear hb); (try clear hb2); (try clear hk); (try clear hi); (try clear ho0)) | ((with_reducible refine gate_dst (N := 10) rfl ?_); refine boxE (N := 10) (cs := #[.slice none 0 0]) (t := 30) (h := ?_); intro gb374 hg w46 hbox hb; replace HO354 := Aside0.mk (Kd.R_below t56_ hb); replace HO357 := Aside0.mk (Kd.R_below t69_ hb); replace HO360 := Aside0.mk (Kd.R_below t70_ hb); replace HO365 := Aside0.mk (Kd.R_below t76_ hb); replace HO369 := Aside0.mk (Kd.R_below (by (with_reducible repeat (first | apply Kd.R_alloc | apply Kd.R_drewN | apply Kd.R_drew)); exact HO369.out) hb); replace HO372 := Aside0.mk (Kd.R_below (by (with_reducible repeat (first | apply Kd.R_alloc | apply Kd.R_drewN | apply Kd.R_drew)); exact HO372.out) hb); have BK374 := Aside0.mk (hbox); have GW374 := Aside0.mk ((by rw [hg]; exact (below_size t32_) : w.heap.size ≤ gb374)); have GE374 := Aside0.mk ((by rw [hg]; exact (below_size t32_) : w.heap.size ≤ gb374)); replace HB := Aside0.mk (below_step t32_ hb); have NB349_374 := nbL BK349 hg; have NB374_349 := nbG BK349 hg; replace BK349 := bkN BK349 hb; have NB362_374 := nbL BK362 hg; have NB374_362 := nbG BK362 hg; replace BK362 := bkN BK362 hb; have NB366_374 := nbL BK366 hg; have NB374_366 := nbG BK366 hg; replace BK366 := bkN BK366 hb; clear hb hbox hg; obtain ⟨Ao47, co47, eo47⟩ := Kd.R_slice HO372.out; subst eo47; have hnb48 := NB374_349.out; have hnc48 := NB349_374.out; have hnb49 := NB374_362.out; have hnc49 := NB362_374.out; have hnb50 := NB374_366.out; have hnc50 := NB366_374.out; have hcz51_0 := bc0 BK374; have hfz51_0 := bf BK374 0))
      (try simp only [Act.put, List.setIfInBounds_toArray, List.set_cons_zero, List.set_cons_succ])
      go_cut [53] (fun v53 wc => ∃ (kq : Nat) (x53_19 : Bool), v53 = .bool x53_19 ∧ Aside0 (laws_FnExactPutRaws.j0 kq l1 t361 t367 t373 x53_19 l0_0 t358 t363 t370 = some r) ∧ Aside0 (kq ≤ k) ∧ Aside0 (Kd.R k65 65 wc w.heap.size (fun _ => True) (.slice Ao44 t367.length co44) t367) ∧ Aside0 (Kd.R k71 71 wc w.heap.size (fun k_ => some k_ ≠ ((.slice Ao38 t363.length co38) : Value).ownBlock ∧ some k_ ≠ ((.slice Ao47 t370.length co47) : Value).ownBlock) (.slice Ao32 t358.length co32) t358) ∧ Aside0 (Kd.R k71 71 wc w.heap.size (fun k_ => some k_ ≠ ((.slice Ao32 t358.length co32) : Value).ownBlock ∧ some k_ ≠ ((.slice Ao47 t370.length co47) : Value).ownBlock) (.slice Ao38 t363.length co38) t363) ∧ Aside0 (Kd.R k71 71 wc w.heap.size (fun k_ => some k_ ≠ ((.slice Ao32 t358.length co32) : Value).ownBlock ∧ some k_ ≠ ((.slice Ao38 t363.length co38) : Value).ownBlock) (.slice Ao47 t370.length co47) t370) ∧ Aside0 (wc.heap[gb349]? = some (.cells #[(.slice A0_0 l0_0.length c0_0)] 24 (0, 0))) ∧ Aside0 (wc.heap[gb362]? = some (.cells #[(.slice Ao32 t358.length co32)] 30 (0, 0))) ∧ Aside0 (wc.heap[gb366]? = some (.cells #[(.slice Ao38 t363.length co38)] 30 (0, 0))) ∧ Aside0 (wc.heap[gb374]? = some (.cells #[(.slice Ao47 t370.length co47)] 30 (0, 0))) ∧ Aside0 (Below w.heap.size w wc))
      case first =>
        have H := HC20.out
        clear HC20
        replace H := Option.bind_eq_some_iff.mp H
        obtain ⟨t375, A520, H⟩ := H
        replace H : (if t375 = true then (laws_FnExactPutRaws.j0 k l1 t361 t367 t373 (t373 != t361) l0_0 t358 t363 t370) else (laws_FnExactPutRaws.j0 k l1 t361 t367 t373 true l0_0 t358 t363 t370)) = some r := H
        have A52 := Aside0.mk A520
        clear A520
        by_cases c53 : t375 = true
        · subst c53
          have H1 : (laws_FnExactPutRaws.j0 k l1 t361 t367 t373 (t373 != t361) l0_0 t358 t363 t370) = some r := by rw [if_pos rfl] at H; exact H
          clear H
          have H := H1
          clear H1
          have H' := Aside0.mk H
          clear H
          have hnb54 := NB374_349.out
          have hnc54 := NB349_374.out
          have hnb55 := NB374_362.out
          have hnc55 := NB362_374.out
          have hnb56 := NB374_366.out
          have hnc56 := NB366_374.out
          have hcz57_0 := bc0 BK374
          have hfz57_0 := bf BK374 0
          have hnb58 := NB362_349.out
          have hnc58 := NB349_362.out
          have hnb59 := NB362_366.out
          have hnc59 := NB366_362.out
          have hcz60_0 := bc0 BK362
          have hfz60_0 := bf BK362 0
          go_wp2_with (first | ((with_reducible refine gate_callee (f := 17) rfl ?_); refine goesL_ (some 47) rfl rfl Try.func17 (by kernel_rfl) rfl #[.agg #[.slice Ao47 t370.length co47], .agg #[.slice Ao32 t358.length co32]] rfl t1_ ?_; (with_reducible refine (laws_eqDisk.calls k _ _ t370 _ _ t358 true _ ?side1 ?side2 ?side3 ?side4 A52.out).mono ?_); (case side1 => refine (Kd.R_reads' (e := 71) (base := w.heap.size) (ok := fun k_ => (((True ∧ some k_ ≠ (.slice Ao28 t352.length co28 : Value).ownBlock) ∧ some k_ ≠ (.slice Ao32 t358.length co32 : Value).ownBlock) ∧ some k_ ≠ (.slice Ao38 t363.length co38 : Value).ownBlock)) (n := t370.length) (c := co47) ?_).2.2; exact (by (with_reducible repeat (first | apply Kd.R_alloc | apply Kd.R_drewN | apply Kd.R_drew)); exact (Kd.R_mono (Kd.R_far (p := ⟨gb374, 0, none⟩) (Kd.R_types HO372.out BK374.out (by decide)) (fun _ hk => hk.2) (.slice Ao47 t370.length co47)) (fun _ h_ => h_.1)))); (case side2 => exact (Kd.R_reads' HO372.out).2.1); (case side3 => refine (Kd.R_reads' (e := 71) (base := w.heap.size) (ok := fun k_ => (((True ∧ some k_ ≠ (.slice Ao28 t352.length co28 : Value).ownBlock) ∧ some k_ ≠ (.slice Ao38 t363.length co38 : Value).ownBlock) ∧ some k_ ≠ (.slice Ao47 t370.length co47 : Value).ownBlock)) (n := t358.length) (c := co32) ?_).2.2; exact (by (with_reducible repeat (first | apply Kd.R_alloc | apply Kd.R_drewN | apply Kd.R_drew)); exact (Kd.R_mono (Kd.R_far (p := ⟨gb374, 0, none⟩) (Kd.R_types HO360.out BK374.out (by decide)) (fun _ hk => hk.2) (.slice Ao47 t370.length co47)) (fun _ h_ => h_.1)))); (case side4 => exact (Kd.R_reads' HO360.out).2.1); rintro e w61 ⟨rfl, hb⟩; refine ⟨_, rfl, ?_⟩; replace HO354 := Aside0.mk (Kd.R_below (by (with_reducible repeat (first | apply Kd.R_alloc | apply Kd.R_drewN | apply Kd.R_drew)); exact (Kd.R_mono (Kd.R_far (p := ⟨gb374, 0, none⟩) (Kd.R_types HO354.out BK374.out (by decide)) (fun _ hk => hk.2) (.slice Ao47 t370.length co47)) (fun _ h_ => h_.1))) hb); replace HO357 := Aside0.mk (Kd.R_below (by (with_reducible repeat (first | apply Kd.R_alloc | apply Kd.R_drewN | apply Kd.R_drew)); exact (Kd.R_mono (Kd.R_far (p := ⟨gb374, 0, none⟩) (Kd.R_types HO357.out BK374.out (by decide)) (fun _ hk => hk.2) (.slice Ao47 t370.length co47)) (fun _ h_ => h_.1))) hb); replace HO360 := Aside0.mk (Kd.R_below (by (with_reducible repeat (first | apply Kd.R_alloc | apply Kd.R_drewN | apply Kd.R_drew)); exact (Kd.R_mono (Kd.R_far (p := ⟨gb374, 0, none⟩) (Kd.R_types HO360.out BK374.out (by decide)) (fun _ hk => hk.2) (.slice Ao47 t370.length co47)) (fun _ h_ => h_.1))) hb); replace HO365 := Aside0.mk (Kd.R_below (by (with_reducible repeat (first | apply Kd.R_alloc | apply Kd.R_drewN | apply Kd.R_drew)); exact (Kd.R_mono (Kd.R_far (p := ⟨gb374, 0, none⟩) (Kd.R_types HO365.out BK374.out (by decide)) (fun _ hk => hk.2) (.slice Ao47 t370.length co47)) (fun _ h_ => h_.1))) hb); replace HO369 := Aside0.mk (Kd.R_below (by (with_reducible repeat (first | apply Kd.R_alloc | apply Kd.R_drewN | apply Kd.R_drew)); exact (Kd.R_mono (Kd.R_far (p := ⟨gb374, 0, none⟩) (Kd.R_types HO369.out BK374.out (by decide)) (fun _ hk => hk.2) (.slice Ao47 t370.length co47)) (fun _ h_ => h_.1))) hb); replace HO372 := Aside0.mk (Kd.R_below (by (with_reducible repeat (first | apply Kd.R_alloc | apply Kd.R_drewN | apply Kd.R_drew)); exact (Kd.R_mono (Kd.R_far (p := ⟨gb374, 0, none⟩) (Kd.R_types HO372.out BK374.out (by decide)) (fun _ hk => hk.2) (.slice Ao47 t370.length co47)) (fun _ h_ => h_.1))) hb); replace BK349 := bkF BK349 NB349_374 hb; replace BK362 := bkF BK362 NB362_374 hb; replace BK366 := bkF BK366 NB366_374 hb; replace BK374 := Aside0.mk (blk_below (g := gb374) (o := .cells #[.slice Ao47 t370.length co47] 30 (0, 0)) (by (with_reducible repeat (first | refine blk_drewN ?_ _ | refine blk_drew ?_ | refine blk_alloc ?_ _)); refine blk_put (cs := #[.slice none 0 0]) ?_ 0 _ rfl; (with_reducible repeat (first | refine blk_drewN ?_ _ | refine blk_drew ?_ | refine blk_alloc ?_ _)); exact BK374.out) hb); replace HB := Aside0.mk (below_step t13_ hb); (try clear hb); (try clear hb2); (try clear hk); (try clear hi)))
          go_meet
          case rel => exact ⟨_, ((t373 != t361)), t19_, H', ⟨by first | omega | exact Nat.le_refl _⟩, ⟨by (with_reducible repeat (first | apply Kd.R_alloc | apply Kd.R_drewN | apply Kd.R_drew)); exact Kd.R_mono HO369.out (fun _ hk => trivial)⟩, ⟨by (with_reducible repeat (first | apply Kd.R_alloc | apply Kd.R_drewN | apply Kd.R_drew)); exact Kd.R_mono HO360.out (fun _ hk => ⟨hk.1.2, hk.2⟩)⟩, ⟨by (with_reducible repeat (first | apply Kd.R_alloc | apply Kd.R_drewN | apply Kd.R_drew)); exact Kd.R_mono HO365.out (fun _ hk => ⟨hk.1.2, hk.2⟩)⟩, ⟨by (with_reducible repeat (first | apply Kd.R_alloc | apply Kd.R_drewN | apply Kd.R_drew)); exact Kd.R_mono HO372.out (fun _ hk => ⟨hk.1.2, hk.2⟩)⟩, ⟨by (with_reducible repeat (first | refine blk_drewN ?_ _ | refine blk_drew ?_ | refine blk_alloc ?_ _)); exact BK349.out⟩, ⟨by (with_reducible repeat (first | refine blk_drewN ?_ _ | refine blk_drew ?_ | refine blk_alloc ?_ _)); exact BK362.out⟩, ⟨by (with_reducible repeat (first | refine blk_drewN ?_ _ | refine blk_drew ?_ | refine blk_alloc ?_ _)); exact BK366.out⟩, ⟨by (with_reducible repeat (first | refine blk_drewN ?_ _ | refine blk_drew ?_ | refine blk_alloc ?_ _)); exact BK374.out⟩, ⟨t13_⟩⟩
        · replace c53 := Bool.eq_false_iff.mpr c53
          subst c53
          have H1 : (laws_FnExactPutRaws.j0 k l1 t361 t367 t373 true l0_0 t358 t363 t370) = some r := by rw [if_neg (show ¬ (false = true) by decide)] at H; exact H
          clear H
          have H := H1
          clear H1
          have H' := Aside0.mk H
          clear H
          have hnb62 := NB374_349.out
          have hnc62 := NB349_374.out
          have hnb63 := NB374_362.out
          have hnc63 := NB362_374.out
          have hnb64 := NB374_366.out
          have hnc64 := NB366_374.out
          have hcz65_0 := bc0 BK374
          have hfz65_0 := bf BK374 0
          have hnb66 := NB362_349.out
          have hnc66 := NB349_362.out
          have hnb67 := NB362_366.out
          have hnc67 := NB366_362.out
          have hcz68_0 := bc0 BK362
          have hfz68_0 := bf BK362 0
          go_wp2_with (first | ((with_reducible refine gate_callee (f := 17) rfl ?_); refine goesL_ (some 47) rfl rfl Try.func17 (by kernel_rfl) rfl #[.agg #[.slice Ao47 t370.length co47], .agg #[.slice Ao32 t358.length co32]] rfl t1_ ?_; (with_reducible refine (laws_eqDisk.calls k _ _ t370 _ _ t358 false _ ?side1 ?side2 ?side3 ?side4 A52.out).mono ?_); (case side1 => refine (Kd.R_reads' (e := 71) (base := w.heap.size) (ok := fun k_ => (((True ∧ some k_ ≠ (.slice Ao28 t352.length co28 : Value).ownBlock) ∧ some k_ ≠ (.slice Ao32 t358.length co32 : Value).ownBlock) ∧ some k_ ≠ (.slice Ao38 t363.length co38 : Value).ownBlock)) (n := t370.length) (c := co47) ?_).2.2; exact (by (with_reducible repeat (first | apply Kd.R_alloc | apply Kd.R_drewN | apply Kd.R_drew)); exact (Kd.R_mono (Kd.R_far (p := ⟨gb374, 0, none⟩) (Kd.R_types HO372.out BK374.out (by decide)) (fun _ hk => hk.2) (.slice Ao47 t370.length co47)) (fun _ h_ => h_.1)))); (case side2 => exact (Kd.R_reads' HO372.out).2.1); (case side3 => refine (Kd.R_reads' (e := 71) (base := w.heap.size) (ok := fun k_ => (((True ∧ some k_ ≠ (.slice Ao28 t352.length co28 : Value).ownBlock) ∧ some k_ ≠ (.slice Ao38 t363.length co38 : Value).ownBlock) ∧ some k_ ≠ (.slice Ao47 t370.length co47 : Value).ownBlock)) (n := t358.length) (c := co32) ?_).2.2; exact (by (with_reducible repeat (first | apply Kd.R_alloc | apply Kd.R_drewN | apply Kd.R_drew)); exact (Kd.R_mono (Kd.R_far (p := ⟨gb374, 0, none⟩) (Kd.R_types HO360.out BK374.out (by decide)) (fun _ hk => hk.2) (.slice Ao47 t370.length co47)) (fun _ h_ => h_.1)))); (case side4 => exact (Kd.R_reads' HO360.out).2.1); rintro e w69 ⟨rfl, hb⟩; refine ⟨_, rfl, ?_⟩; replace HO354 := Aside0.mk (Kd.R_below (by (with_reducible repeat (first | apply Kd.R_alloc | apply Kd.R_drewN | apply Kd.R_drew)); exact (Kd.R_mono (Kd.R_far (p := ⟨gb374, 0, none⟩) (Kd.R_types HO354.out BK374.out (by decide)) (fun _ hk => hk.2) (.slice Ao47 t370.length co47)) (fun _ h_ => h_.1))) hb); replace HO357 := Aside0.mk (Kd.R_below (by (with_reducible repeat (first | apply Kd.R_alloc | apply Kd.R_drewN | apply Kd.R_drew)); exact (Kd.R_mono (Kd.R_far (p := ⟨gb374, 0, none⟩) (Kd.R_types HO357.out BK374.out (by decide)) (fun _ hk => hk.2) (.slice Ao47 t370.length co47)) (fun _ h_ => h_.1))) hb); replace HO360 := Aside0.mk (Kd.R_below (by (with_reducible repeat (first | apply Kd.R_alloc | apply Kd.R_drewN | apply Kd.R_drew)); exact (Kd.R_mono (Kd.R_far (p := ⟨gb374, 0, none⟩) (Kd.R_types HO360.out BK374.out (by decide)) (fun _ hk => hk.2) (.slice Ao47 t370.length co47)) (fun _ h_ => h_.1))) hb); replace HO365 := Aside0.mk (Kd.R_below (by (with_reducible repeat (first | apply Kd.R_alloc | apply Kd.R_drewN | apply Kd.R_drew)); exact (Kd.R_mono (Kd.R_far (p := ⟨gb374, 0, none⟩) (Kd.R_types HO365.out BK374.out (by decide)) (fun _ hk => hk.2) (.slice Ao47 t370.length co47)) (fun _ h_ => h_.1))) hb); replace HO369 := Aside0.mk (Kd.R_below (by (with_reducible repeat (first | apply Kd.R_alloc | apply Kd.R_drewN | apply Kd.R_drew)); exact (Kd.R_mono (Kd.R_far (p := ⟨gb374, 0, none⟩) (Kd.R_types HO369.out BK374.out (by decide)) (fun _ hk => hk.2) (.slice Ao47 t370.length co47)) (fun _ h_ => h_.1))) hb); replace HO372 := Aside0.mk (Kd.R_below (by (with_reducible repeat (first | apply Kd.R_alloc | apply Kd.R_drewN | apply Kd.R_drew)); exact (Kd.R_mono (Kd.R_far (p := ⟨gb374, 0, none⟩) (Kd.R_types HO372.out BK374.out (by decide)) (fun _ hk => hk.2) (.slice Ao47 t370.length co47)) (fun _ h_ => h_.1))) hb); replace BK349 := bkF BK349 NB349_374 hb; replace BK362 := bkF BK362 NB362_374 hb; replace BK366 := bkF BK366 NB366_374 hb; replace BK374 := Aside0.mk (blk_below (g := gb374) (o := .cells #[.slice Ao47 t370.length co47] 30 (0, 0)) (by (with_reducible repeat (first | refine blk_drewN ?_ _ | refine blk_drew ?_ | refine blk_alloc ?_ _)); refine blk_put (cs := #[.slice none 0 0]) ?_ 0 _ rfl; (with_reducible repeat (first | refine blk_drewN ?_ _ | refine blk_drew ?_ | refine blk_alloc ?_ _)); exact BK374.out) hb); replace HB := Aside0.mk (below_step t13_ hb); (try clear hb); (try clear hb2); (try clear hk); (try clear hi)))
          go_meet
          case rel => exact ⟨_, (true), t19_, H', ⟨by first | omega | exact Nat.le_refl _⟩, ⟨by (with_reducible repeat (first | apply Kd.R_alloc | apply Kd.R_drewN | apply Kd.R_drew)); exact Kd.R_mono HO369.out (fun _ hk => trivial)⟩, ⟨by (with_reducible repeat (first | apply Kd.R_alloc | apply Kd.R_drewN | apply Kd.R_drew)); exact Kd.R_mono HO360.out (fun _ hk => ⟨hk.1.2, hk.2⟩)⟩, ⟨by (with_reducible repeat (first | apply Kd.R_alloc | apply Kd.R_drewN | apply Kd.R_drew)); exact Kd.R_mono HO365.out (fun _ hk => ⟨hk.1.2, hk.2⟩)⟩, ⟨by (with_reducible repeat (first | apply Kd.R_alloc | apply Kd.R_drewN | apply Kd.R_drew)); exact Kd.R_mono HO372.out (fun _ hk => ⟨hk.1.2, hk.2⟩)⟩, ⟨by (with_reducible repeat (first | refine blk_drewN ?_ _ | refine blk_drew ?_ | refine blk_alloc ?_ _)); exact BK349.out⟩, ⟨by (with_reducible repeat (first | refine blk_drewN ?_ _ | refine blk_drew ?_ | refine blk_alloc ?_ _)); exact BK362.out⟩, ⟨by (with_reducible repeat (first | refine blk_drewN ?_ _ | refine blk_drew ?_ | refine blk_alloc ?_ _)); exact BK366.out⟩, ⟨by (with_reducible repeat (first | refine blk_drewN ?_ _ | refine blk_drew ?_ | refine blk_alloc ?_ _)); exact BK374.out⟩, ⟨t13_⟩⟩
      case rest =>
        clear HC20
        try clear c1
        try clear p2
        try clear c3
        try clear c4
        try clear c4b0
        try clear c5
        try clear c6
        try clear c9
        try clear c9b0
        try clear c11
        try clear c12
        try clear c14
        try clear c15
        try clear c17
        try clear c31
        try clear c33
        try clear c39
        try clear c40
        try clear c48
        try clear c49
        try clear c50
        try clear c53
        try clear c54
        try clear c55
        try clear c56
        try clear c58
        try clear c59
        try clear c62
        try clear c63
        try clear c64
        try clear c66
        try clear c67
        try clear hcz11_0
        try clear hcz22_0
        try clear hcz25_0
        try clear hcz34_0
        try clear hcz35_0
        try clear hcz41_0
        try clear hcz43_0
        try clear hcz51_0
        try clear hcz57_0
        try clear hcz60_0
        try clear hcz65_0
        try clear hcz68_0
        try clear hcz6_0
        try clear hfz11_0
        try clear hfz22_0
        try clear hfz25_0
        try clear hfz34_0
        try clear hfz35_0
        try clear hfz41_0
        try clear hfz43_0
        try clear hfz51_0
        try clear hfz57_0
        try clear hfz60_0
        try clear hfz65_0
        try clear hfz68_0
        try clear hfz6_0
        obtain ⟨kq, x53_19, rfl, HA, HJ19, HO_9, HO_363000, HO_367000, HO_375000, BK349, BK362, BK366, BK374, HB⟩ := hcut
        cases kq with
        | zero => exact absurd HA.out (by simp [laws_FnExactPutRaws.j0])
        | succ kj19 =>
          have H := HA.out
          clear HA
          simp only [laws_FnExactPutRaws.j0] at H
          by_cases c70 : x53_19 = true
          · subst c70
            have H1 : (none) = some r := by rw [if_pos rfl] at H; exact H
            clear H
            have H := H1
            clear H1
            exact absurd H (by simp)
          · replace c70 := Bool.eq_false_iff.mpr c70
            subst c70
            have H1 : ((laws_toDisk.f kj19 l0_0).bind fun t376 => ((laws_eqDisk.f kj19 t363 t376).bind fun t379 => (if t379 = true then ((laws_toRawS.f kj19 l1).bind fun t380 => ((laws_eqRawS.f kj19 t367 t380).bind fun t383 => (if t383 = true then ((laws_markDisk.f kj19 t363 1).bind fun bt384 => ((laws_markRawS.f kj19 t367 bt384.1).bind fun bt386 => (if bt386.1 < 0 then (laws_FnExactPutRaws.j1 kj19 l1 t361 true l0_0 t358 t370) else ((laws_eqDisk.f kj19 t370 t358).bind fun t388 => (if t388 = true then (laws_FnExactPutRaws.j1 kj19 l1 t361 (t373 != t361) l0_0 t358 t370) else (laws_FnExactPutRaws.j1 kj19 l1 t361 true l0_0 t358 t370)))))) else (none)))) else (none)))) = some r := by rw [if_neg (show ¬ (false = true) by decide)] at H; exact H
            clear H
            have H := H1
            clear H1
            replace H := Option.bind_eq_some_iff.mp H
            obtain ⟨t376, A710, H⟩ := H
            replace H : ((laws_eqDisk.f kj19 t363 t376).bind fun t379 => (if t379 = true then ((laws_toRawS.f kj19 l1).bind fun t380 => ((laws_eqRawS.f kj19 t367 t380).bind fun t383 => (if t383 = true then ((laws_markDisk.f kj19 t363 1).bind fun bt384 => ((laws_markRawS.f kj19 t367 bt384.1).bind fun bt386 => (if bt386.1 < 0 then (laws_FnExactPutRaws.j1 kj19 l1 t361 true l0_0 t358 t370) else ((laws_eqDisk.f kj19 t370 t358).bind fun t388 => (if t388 = true then (laws_FnExactPutRaws.j1 kj19 l1 t361 (t373 != t361) l0_0 t358 t370) else (laws_FnExactPutRaws.j1 kj19 l1 t361 true l0_0 t358 t370)))))) else (none)))) else (none))) = some r := H
            have A71 := Aside0.mk A710
            clear A710
            replace H := Option.bind_eq_some_iff.mp H
            obtain ⟨t379, A720, H⟩ := H
            replace H : (if t379 = true then ((laws_toRawS.f kj19 l1).bind fun t380 => ((laws_eqRawS.f kj19 t367 t380).bind fun t383 => (if t383 = true then ((laws_markDisk.f kj19 t363 1).bind fun bt384 => ((laws_markRawS.f kj19 t367 bt384.1).bind fun bt386 => (if bt386.1 < 0 then (laws_FnExactPutRaws.j1 kj19 l1 t361 true l0_0 t358 t370) else ((laws_eqDisk.f kj19 t370 t358).bind fun t388 => (if t388 = true then (laws_FnExactPutRaws.j1 kj19 l1 t361 (t373 != t361) l0_0 t358 t370) else (laws_FnExactPutRaws.j1 kj19 l1 t361 true l0_0 t358 t370)))))) else (none)))) else (none)) = some r := H
            have A72 := Aside0.mk A720
            clear A720
            by_cases c73 : t379 = true
            · subst c73
              have H1 : ((laws_toRawS.f kj19 l1).bind fun t380 => ((laws_eqRawS.f kj19 t367 t380).bind fun t383 => (if t383 = true then ((laws_markDisk.f kj19 t363 1).bind fun bt384 => ((laws_markRawS.f kj19 t367 bt384.1).bind fun bt386 => (if bt386.1 < 0 then (laws_FnExactPutRaws.j1 kj19 l1 t361 true l0_0 t358 t370) else ((laws_eqDisk.f kj19 t370 t358).bind fun t388 => (if t388 = true then (laws_FnExactPutRaws.j1 kj19 l1 t361 (t373 != t361) l0_0 t358 t370) else (laws_FnExactPutRaws.j1 kj19 l1 t361 true l0_0 t358 t370)))))) else (none)))) = some r := by rw [if_pos rfl] at H; exact H
              clear H
              have H := H1
              clear H1
              replace H := Option.bind_eq_some_iff.mp H
              obtain ⟨t380, A740, H⟩ := H
              replace H : ((laws_eqRawS.f kj19 t367 t380).bind fun t383 => (if t383 = true then ((laws_markDisk.f kj19 t363 1).bind fun bt384 => ((laws_markRawS.f kj19 t367 bt384.1).bind fun bt386 => (if bt386.1 < 0 then (laws_FnExactPutRaws.j1 kj19 l1 t361 true l0_0 t358 t370) else ((laws_eqDisk.f kj19 t370 t358).bind fun t388 => (if t388 = true then (laws_FnExactPutRaws.j1 kj19 l1 t361 (t373 != t361) l0_0 t358 t370) else (laws_FnExactPutRaws.j1 kj19 l1 t361 true l0_0 t358 t370)))))) else (none))) = some r := H
              have A74 := Aside0.mk A740
              clear A740
              replace H := Option.bind_eq_some_iff.mp H
              obtain ⟨t383, A750, H⟩ := H
              replace H : (if t383 = true then ((laws_markDisk.f kj19 t363 1).bind fun bt384 => ((laws_markRawS.f kj19 t367 bt384.1).bind fun bt386 => (if bt386.1 < 0 then (laws_FnExactPutRaws.j1 kj19 l1 t361 true l0_0 t358 t370) else ((laws_eqDisk.f kj19 t370 t358).bind fun t388 => (if t388 = true then (laws_FnExactPutRaws.j1 kj19 l1 t361 (t373 != t361) l0_0 t358 t370) else (laws_FnExactPutRaws.j1 kj19 l1 t361 true l0_0 t358 t370)))))) else (none)) = some r := H
              have A75 := Aside0.mk A750
              clear A750
              by_cases c76 : t383 = true
              · subst c76
                have H1 : ((laws_markDisk.f kj19 t363 1).bind fun bt384 => ((laws_markRawS.f kj19 t367 bt384.1).bind fun bt386 => (if bt386.1 < 0 then (laws_FnExactPutRaws.j1 kj19 l1 t361 true l0_0 t358 t370) else ((laws_eqDisk.f kj19 t370 t358).bind fun t388 => (if t388 = true then (laws_FnExactPutRaws.j1 kj19 l1 t361 (t373 != t361) l0_0 t358 t370) else (laws_FnExactPutRaws.j1 kj19 l1 t361 true l0_0 t358 t370)))))) = some r := by rw [if_pos rfl] at H; exact H
                clear H
                have H := H1
                clear H1
                replace H := Option.bind_eq_some_iff.mp H
                obtain ⟨⟨t384, t385⟩, A770, H⟩ := H
                replace H : ((laws_markRawS.f kj19 t367 t384).bind fun bt386 => (if bt386.1 < 0 then (laws_FnExactPutRaws.j1 kj19 l1 t361 true l0_0 t358 t370) else ((laws_eqDisk.f kj19 t370 t358).bind fun t388 => (if t388 = true then (laws_FnExactPutRaws.j1 kj19 l1 t361 (t373 != t361) l0_0 t358 t370) else (laws_FnExactPutRaws.j1 kj19 l1 t361 true l0_0 t358 t370))))) = some r := H
                have A77 := Aside0.mk A770
                clear A770
                replace H := Option.bind_eq_some_iff.mp H
                obtain ⟨⟨t386, t387⟩, A780, H⟩ := H
                replace H : (if t386 < 0 then (laws_FnExactPutRaws.j1 kj19 l1 t361 true l0_0 t358 t370) else ((laws_eqDisk.f kj19 t370 t358).bind fun t388 => (if t388 = true then (laws_FnExactPutRaws.j1 kj19 l1 t361 (t373 != t361) l0_0 t358 t370) else (laws_FnExactPutRaws.j1 kj19 l1 t361 true l0_0 t358 t370)))) = some r := H
                have A78 := Aside0.mk A780
                clear A780
                have HC79 := Aside0.mk H
                clear H
                try go_wp2
                replace HO_9 := Aside0.mk (Kd.R_drew HO_9.out)
                replace HO_363000 := Aside0.mk (Kd.R_drew HO_363000.out)
                replace HO_367000 := Aside0.mk (Kd.R_drew HO_367000.out)
                replace HO_375000 := Aside0.mk (Kd.R_drew HO_375000.out)
                replace BK349 := Aside0.mk (blk_drew BK349.out)
                replace BK362 := Aside0.mk (blk_drew BK362.out)
                replace BK366 := Aside0.mk (blk_drew BK366.out)
                replace BK374 := Aside0.mk (blk_drew BK374.out)
                replace HB := Aside0.mk (below_drew1 HB.out)
                refine start_ (n := 5) (S := fun w' => w'.cell? ⟨gb366, 0, none⟩ = some (.slice Ao38 t363.length co38) ∧ w'.cell? ⟨gb349, 0, none⟩ = some (.slice A0_0 l0_0.length c0_0)) (ds := []) #[false, false, false, false, false] (by kernel_rfl) rfl rfl ⟨bc0 BK366, bc0 BK349⟩ (fun hHeld => ?_)
                generalize wc.drew = w80 at HO_9 HO_363000 HO_367000 HO_375000 BK349 BK362 BK366 BK374 HB hHeld ⊢
                refine take_ (i := 0) (N := some 54) (v := ?_) (a' := ?_) #[true, false, false, false, false] rfl rfl (by kernel_rfl) (fun _ _ _ h => h) (Or.inl ⟨by rfl, ?_⟩) hHeld ?_ ?_
                rotate_left
                · rintro w' ⟨s0, s1⟩
                  go_simp
                  with_reducible rfl
                rotate_left
                · simp only [Act.put, List.setIfInBounds_toArray, List.set_cons_zero, List.set_cons_succ, i64_w, i32_w]
                  rfl
                refine take_ (i := 1) (N := some 55) (v := ?_) (a' := ?_) #[true, true, false, false, false] rfl rfl (by kernel_rfl) (fun _ _ _ h => h) (Or.inl ⟨by rfl, ?_⟩) hHeld ?_ ?_
                rotate_left
                · rintro w' ⟨s0, s1⟩
                  go_simp
                  with_reducible rfl
                rotate_left
                · simp only [Act.put, List.setIfInBounds_toArray, List.set_cons_zero, List.set_cons_succ, i64_w, i32_w]
                  rfl
                refine one_ (i := 2) (N := some 56) #[true, true, true, false, false] rfl rfl (by kernel_rfl) (by decide) (fun K hK => ?_)
                refine goes_ Try.func14 (by kernel_rfl) rfl #[.agg #[.slice A0_0 l0_0.length c0_0]] (by rfl) rfl rfl t1_ ?_
                with_reducible refine (laws_toDisk.calls kj19 _ _ l0_0 t376 _ ?side1 ?side2 A71.out).mono ?_
                (case side1 => exact cB HR0_0 HB)
                (case side2 => exact HC0_0.out)
                rintro e w81 ⟨v377, rfl, ho0, hb⟩
                refine ⟨_, rfl, ?_⟩
                replace HO_9 := Aside0.mk (Kd.R_below t59_ hb)
                have HO378 := Aside0.mk (Kd.R_lower (Kd.R_new' (Kd.R_new' (Kd.R_new' ho0 (Kd.R_lt t34_)) (Kd.R_lt t35_)) (Kd.R_lt t36_)) (below_size t13_))
                replace HO_363000 := Aside0.mk (Kd.R_elder' t34_ (Kd.R_base ho0) hb)
                replace HO_367000 := Aside0.mk (Kd.R_elder' t35_ (Kd.R_base ho0) hb)
                replace HO_375000 := Aside0.mk (Kd.R_elder' t36_ (Kd.R_base ho0) hb)
                replace BK349 := bkN BK349 hb
                replace BK362 := bkN BK362 hb
                replace BK366 := bkN BK366 hb
                replace BK374 := bkN BK374 hb
                replace HB := Aside0.mk (below_step t13_ hb)
                (try clear hb)
                (try clear hb2)
                (try clear hk)
                (try clear hi)
                (try clear ho0)
                obtain ⟨Ao82, co82, eo82⟩ := Kd.R_slice HO378.out
                (first | subst eo82 | (injection eo82 with f1_ f2_ f3_; have f4_ := f1_.symm; have f5_ := f3_.symm; clear f1_ f2_ f3_; subst f4_; subst f5_))
                refine hK.out _ _ ⟨bc0 BK366, bc0 BK349⟩ (fun hHeld => ?_)
                clear hK K
                refine norm_ (a' := ?_) ?_ ?_
                rotate_left
                · show Act.put _ (some 56) _ = _
                  simp only [Act.put, List.setIfInBounds_toArray, List.set_cons_zero, List.set_cons_succ, i64_w, i32_w]
                  rfl
                refine one_ (i := 3) (N := some 57) #[true, true, true, true, false] rfl rfl (by kernel_rfl) (by decide) (fun K hK => ?_)
                refine goes_ Try.func17 (by kernel_rfl) rfl #[.agg #[.slice Ao38 t363.length co38], .agg #[.slice Ao82 t376.length co82]] (by rfl) rfl rfl t1_ ?_
                with_reducible refine (laws_eqDisk.calls kj19 _ _ t363 _ _ t376 true _ ?side1 ?side2 ?side3 ?side4 A72.out).mono ?_
                (case side1 => repeat (first | exact (Kd.R_reads' HO_367000.out).2.2 | (with_reducible refine Kd.C_alloc ?_ _) | (with_reducible refine Kd.C_drewN ?_ _) | (with_reducible refine Kd.C_drew ?_)))
                (case side2 => exact (Kd.R_reads' HO_367000.out).2.1)
                (case side3 => repeat (first | exact (Kd.R_reads' HO378.out).2.2 | (with_reducible refine Kd.C_alloc ?_ _) | (with_reducible refine Kd.C_drewN ?_ _) | (with_reducible refine Kd.C_drew ?_)))
                (case side4 => exact (Kd.R_reads' HO378.out).2.1)
                rintro e w83 ⟨rfl, hb⟩
                refine ⟨_, rfl, ?_⟩
                replace HO_9 := Aside0.mk (Kd.R_below t59_ hb)
                replace HO_363000 := Aside0.mk (Kd.R_below t34_ hb)
                replace HO_367000 := Aside0.mk (Kd.R_below t35_ hb)
                replace HO_375000 := Aside0.mk (Kd.R_below t36_ hb)
                replace HO378 := Aside0.mk (Kd.R_below t71_ hb)
                replace BK349 := bkN BK349 hb
                replace BK362 := bkN BK362 hb
                replace BK366 := bkN BK366 hb
                replace BK374 := bkN BK374 hb
                replace HB := Aside0.mk (below_step t13_ hb)
                (try clear hb)
                (try clear hb2)
                (try clear hk)
                (try clear hi)
                refine hK.out _ _ ⟨bc0 BK366, bc0 BK349⟩ (fun hHeld => ?_)
                clear hK K
                refine norm_ (a' := ?_) ?_ ?_
                rotate_left
                · show Act.put _ (some 57) _ = _
                  simp only [Act.put, List.setIfInBounds_toArray, List.set_cons_zero, List.set_cons_succ, i64_w, i32_w]
                  rfl
                refine pure_ (i := 4) (N := some 58) (v := ?_) (a' := ?_) #[true, true, true, true, true] rfl rfl (by kernel_rfl) (fun _ _ _ h => h) (Or.inl ⟨by rfl, ?_⟩) ?_ ?_
                rotate_left
                · intro w'
                  go_simp
                  with_reducible rfl
                rotate_left
                · simp only [Act.put, List.setIfInBounds_toArray, List.set_cons_zero, List.set_cons_succ, i64_w, i32_w]
                  rfl
                refine done_ (by kernel_rfl) ?_
                go_upto_region 21 with (first | ((with_reducible refine gate_callee (f := 15) rfl ?_); refine goesL_ (some 61) rfl rfl Try.func15 (by kernel_rfl) rfl #[.slice A1 l1.length c1] rfl t1_ ?_; (with_reducible refine (laws_toRawS.calls kj19 _ _ l1 t380 _ ?side1 ?side2 A74.out).mono ?_); (case side1 => exact cB HR1 HB); (case side2 => exact HC1.out); rintro e w84 ⟨v381, rfl, ho0, hb⟩; refine ⟨_, rfl, ?_⟩; replace HO_363000 := Aside0.mk (Kd.R_below t34_ hb); replace HO_367000 := Aside0.mk (Kd.R_below t35_ hb); replace HO_375000 := Aside0.mk (Kd.R_below t36_ hb); replace HO378 := Aside0.mk (Kd.R_below t71_ hb); have HO382 := Aside0.mk (Kd.R_lower (Kd.R_new' ho0 (Kd.R_lt t59_)) (below_size t13_)); replace HO_9 := Aside0.mk (Kd.R_elder' t59_ (Kd.R_base ho0) hb); replace BK349 := bkN BK349 hb; replace BK362 := bkN BK362 hb; replace BK366 := bkN BK366 hb; replace BK374 := bkN BK374 hb; replace HB := Aside0.mk (below_step t13_ hb); (try clear hb); (try clear hb2); (try clear hk); (try clear hi); (try clear ho0); obtain ⟨Ao85, co85, eo85⟩ := Kd.R_slice HO382.out; subst eo85) | ((with_reducible refine gate_callee (f := 18) rfl ?_); refine goesL_ (some 62) rfl rfl Try.func18 (by kernel_rfl) rfl #[.slice Ao44 t367.length co44, .slice Ao85 t380.length co85] rfl t1_ ?_; (with_reducible refine (laws_eqRawS.calls kj19 _ _ t367 _ _ t380 true _ ?side1 ?side2 ?side3 ?side4 A75.out).mono ?_); (case side1 => repeat (first | exact (Kd.R_reads' HO_9.out).2.2 | (with_reducible refine Kd.C_alloc ?_ _) | (with_reducible refine Kd.C_drewN ?_ _) | (with_reducible refine Kd.C_drew ?_))); (case side2 => exact (Kd.R_reads' HO_9.out).2.1); (case side3 => repeat (first | exact (Kd.R_reads' HO382.out).2.2 | (with_reducible refine Kd.C_alloc ?_ _) | (with_reducible refine Kd.C_drewN ?_ _) | (with_reducible refine Kd.C_drew ?_))); (case side4 => exact (Kd.R_reads' HO382.out).2.1); rintro e w86 ⟨rfl, hb⟩; refine ⟨_, rfl, ?_⟩; replace HO_9 := Aside0.mk (Kd.R_below t59_ hb); replace HO_363000 := Aside0.mk (Kd.R_below t34_ hb); replace HO_367000 := Aside0.mk (Kd.R_below t35_ hb); replace HO_375000 := Aside0.mk (Kd.R_below t36_ hb); replace HO378 := Aside0.mk (Kd.R_below t71_ hb); replace HO382 := Aside0.mk (Kd.R_below (by (with_reducible repeat (first | apply Kd.R_alloc | apply Kd.R_drewN | apply Kd.R_drew)); exact HO382.out) hb); replace BK349 := bkN BK349 hb; replace BK362 := bkN BK362 hb; replace BK366 := bkN BK366 hb; replace BK374 := bkN BK374 hb; replace HB := Aside0.mk (below_step t13_ hb); (try clear hb); (try clear hb2); (try clear hk); (try clear hi); have hnb87 := NB366_349.out; have hnc87 := NB349_366.out; have hnb88 := NB366_362.out; have hnc88 := NB362_366.out; have hnb89 := NB366_374.out; have hnc89 := NB374_366.out; have hcz90_0 := bc0 BK366; have hfz90_0 := bf BK366 0) | ((with_reducible refine gate_callee (f := 19) rfl ?_); refine goesL_ (some 66) rfl rfl Try.func19 (by kernel_rfl) rfl #[.agg #[.slice Ao38 t363.length co38], .int .i64 1] rfl t1_ ?_; (with_reducible refine (laws_markDisk.calls kj19 (fun k_ => some k_ = (.slice Ao38 t363.length co38 : Value).ownBlock) (.slice Ao38 t363.length co38) t363 1 t384 t385 w _ ?side1 ?side2 A77.out).mono ?_); (case side1 => repeat (first | (with_reducible first | exact HB.out | apply below_alloc | apply pw_below_drewN | apply below_drew1 | refine below_set ?_ GE349.out | refine below_set ?_ GE362.out | refine below_set ?_ GE366.out | refine below_set ?_ GE374.out) | exact HB.out)); (case side2 => exact Kd.R_tight rfl HO_367000.out); rintro e w91 ⟨rfl, hy0, hb, hkp⟩; refine ⟨_, rfl, ?_⟩; replace HO_9 := Aside0.mk (Kd.R_mono (ok' := fun k_ => some k_ ≠ (.slice Ao85 t380.length co85 : Value).ownBlock) (Kd.R_keptB ((Kd.R_apart' HO_9.out (Kd.R_typed HO_367000.out) (by decide))) hkp (fun k_ hk_ hs_ => (hk_.2) hs_)) (fun k_ hk_ => hk_.1.1.2)); replace HO_363000 := Aside0.mk (Kd.R_mono (ok' := fun k_ => some k_ ≠ (.slice Ao38 t363.length co38 : Value).ownBlock ∧ some k_ ≠ (.slice Ao47 t370.length co47 : Value).ownBlock ∧ some k_ ≠ (.slice Ao82 t376.length co82 : Value).ownBlock) (Kd.R_keptB (HO_363000.out) hkp (fun k_ hk_ hs_ => (hk_.1.1) hs_)) (fun k_ hk_ => ⟨hk_.1.1.1, hk_.1.1.2, hk_.1.2⟩)); replace HO_375000 := Aside0.mk (Kd.R_mono (ok' := fun k_ => some k_ ≠ (.slice Ao32 t358.length co32 : Value).ownBlock ∧ some k_ ≠ (.slice Ao38 t363.length co38 : Value).ownBlock ∧ some k_ ≠ (.slice Ao82 t376.length co82 : Value).ownBlock) (Kd.R_keptB (HO_375000.out) hkp (fun k_ hk_ hs_ => (hk_.1.2) hs_)) (fun k_ hk_ => ⟨hk_.1.1.1, hk_.1.1.2, hk_.1.2⟩)); replace BK349 := Aside0.mk (blk_kept (by (with_reducible repeat (first | refine blk_drewN ?_ _ | refine blk_drew ?_ | refine blk_alloc ?_ _)); exact BK349.out) hkp (fun hs_ => (fun e_ => (Kd.R_ne HO_367000.out BK349.out (by decide)) e_) hs_)); replace BK362 := Aside0.mk (blk_kept (by (with_reducible repeat (first | refine blk_drewN ?_ _ | refine blk_drew ?_ | refine blk_alloc ?_ _)); exact BK362.out) hkp (fun hs_ => (fun e_ => (Kd.R_ne HO_367000.out BK362.out (by decide)) e_) hs_)); replace BK366 := Aside0.mk (blk_kept (by (with_reducible repeat (first | refine blk_drewN ?_ _ | refine blk_drew ?_ | refine blk_alloc ?_ _)); exact BK366.out) hkp (fun hs_ => (fun e_ => (Kd.R_ne HO_367000.out BK366.out (by decide)) e_) hs_)); replace BK374 := Aside0.mk (blk_kept (by (with_reducible repeat (first | refine blk_drewN ?_ _ | refine blk_drew ?_ | refine blk_alloc ?_ _)); exact BK374.out) hkp (fun hs_ => (fun e_ => (Kd.R_ne HO_367000.out BK374.out (by decide)) e_) hs_)); replace HO378 := Aside0.mk (Kd.R_mono (ok' := fun k_ => some k_ ≠ (.slice Ao32 t358.length co32 : Value).ownBlock ∧ some k_ ≠ (.slice Ao38 t363.length co38 : Value).ownBlock ∧ some k_ ≠ (.slice Ao47 t370.length co47 : Value).ownBlock) (Kd.R_keptB (HO378.out) hkp (fun k_ hk_ hs_ => (hk_.1.2) hs_)) (fun k_ hk_ => ⟨hk_.1.1.1.2, hk_.1.1.2, hk_.1.2⟩)); replace HO382 := Aside0.mk (Kd.R_mono (ok' := fun k_ => some k_ ≠ (.slice Ao44 t367.length co44 : Value).ownBlock) (Kd.R_keptB ((Kd.R_apart' HO382.out (Kd.R_typed HO_367000.out) (by decide))) hkp (fun k_ hk_ hs_ => (hk_.2) hs_)) (fun k_ hk_ => hk_.1.1.2)); replace HO_367000 := Aside0.mk (Kd.R_reok rfl hy0 (fun k_ e_ => HO_367000.out.1 k_ e_)); replace HB := Aside0.mk (hb); (try clear hb); (try clear hkp); (try clear hy0)) | ((with_reducible refine gate_callee (f := 20) rfl ?_); refine goesL_ (some 69) rfl rfl Try.func20 (by kernel_rfl) rfl #[.slice Ao44 t367.length co44, .int .i64 t384] rfl t1_ ?_; (with_reducible refine (laws_markRawS.calls kj19 (fun k_ => some k_ = (.slice Ao44 t367.length co44 : Value).ownBlock) (.slice Ao44 t367.length co44) t367 t384 t386 t387 w _ ?side1 ?side2 A78.out).mono ?_); (case side1 => repeat (first | (with_reducible first | exact HB.out | apply below_alloc | apply pw_below_drewN | apply below_drew1 | refine below_set ?_ GE349.out | refine below_set ?_ GE362.out | refine below_set ?_ GE366.out | refine below_set ?_ GE374.out) | exact HB.out)); (case side2 => exact Kd.R_tight rfl HO_9.out); rintro e w92 ⟨rfl, hy0, hb, hkp⟩; refine ⟨_, rfl, ?_⟩; replace HO_363000 := Aside0.mk (Kd.R_mono (ok' := fun k_ => some k_ ≠ (.slice Ao38 t363.length co38 : Value).ownBlock ∧ some k_ ≠ (.slice Ao47 t370.length co47 : Value).ownBlock ∧ some k_ ≠ (.slice Ao82 t376.length co82 : Value).ownBlock) (Kd.R_keptB ((Kd.R_apart' HO_363000.out (Kd.R_typed HO_9.out) (by decide))) hkp (fun k_ hk_ hs_ => (hk_.2) hs_)) (fun k_ hk_ => ⟨hk_.1.1.1, hk_.1.1.2.1, hk_.1.1.2.2⟩)); replace HO_367000 := Aside0.mk (Kd.R_mono (ok' := fun k_ => some k_ ≠ (.slice Ao32 t358.length co32 : Value).ownBlock ∧ some k_ ≠ (.slice Ao47 t370.length co47 : Value).ownBlock ∧ some k_ ≠ (.slice Ao82 t376.length co82 : Value).ownBlock) (Kd.R_keptB ((Kd.R_apart' HO_367000.out (Kd.R_typed HO_9.out) (by decide))) hkp (fun k_ hk_ hs_ => (hk_.2) hs_)) (fun k_ hk_ => ⟨hk_.1.1.1.1, hk_.1.1.1.2, hk_.1.1.2⟩)); replace HO_375000 := Aside0.mk (Kd.R_mono (ok' := fun k_ => some k_ ≠ (.slice Ao32 t358.length co32 : Value).ownBlock ∧ some k_ ≠ (.slice Ao38 t363.length co38 : Value).ownBlock ∧ some k_ ≠ (.slice Ao82 t376.length co82 : Value).ownBlock) (Kd.R_keptB ((Kd.R_apart' HO_375000.out (Kd.R_typed HO_9.out) (by decide))) hkp (fun k_ hk_ hs_ => (hk_.2) hs_)) (fun k_ hk_ => ⟨hk_.1.1.1, hk_.1.1.2.1, hk_.1.1.2.2⟩)); replace BK349 := Aside0.mk (blk_kept (by (with_reducible repeat (first | refine blk_drewN ?_ _ | refine blk_drew ?_ | refine blk_alloc ?_ _)); exact BK349.out) hkp (fun hs_ => (fun e_ => (Kd.R_ne HO_9.out BK349.out (by decide)) e_) hs_)); replace BK362 := Aside0.mk (blk_kept (by (with_reducible repeat (first | refine blk_drewN ?_ _ | refine blk_drew ?_ | refine blk_alloc ?_ _)); exact BK362.out) hkp (fun hs_ => (fun e_ => (Kd.R_ne HO_9.out BK362.out (by decide)) e_) hs_)); replace BK366 := Aside0.mk (blk_kept (by (with_reducible repeat (first | refine blk_drewN ?_ _ | refine blk_drew ?_ | refine blk_alloc ?_ _)); exact BK366.out) hkp (fun hs_ => (fun e_ => (Kd.R_ne HO_9.out BK366.out (by decide)) e_) hs_)); replace BK374 := Aside0.mk (blk_kept (by (with_reducible repeat (first | refine blk_drewN ?_ _ | refine blk_drew ?_ | refine blk_alloc ?_ _)); exact BK374.out) hkp (fun hs_ => (fun e_ => (Kd.R_ne HO_9.out BK374.out (by decide)) e_) hs_)); replace HO378 := Aside0.mk (Kd.R_mono (ok' := fun k_ => some k_ ≠ (.slice Ao32 t358.length co32 : Value).ownBlock ∧ some k_ ≠ (.slice Ao38 t363.length co38 : Value).ownBlock ∧ some k_ ≠ (.slice Ao47 t370.length co47 : Value).ownBlock) (Kd.R_keptB ((Kd.R_apart' HO378.out (Kd.R_typed HO_9.out) (by decide))) hkp (fun k_ hk_ hs_ => (hk_.2) hs_)) (fun k_ hk_ => ⟨hk_.1.1.1, hk_.1.1.2.1, hk_.1.1.2.2⟩)); replace HO_9 := Aside0.mk (Kd.R_reok rfl hy0 (fun k_ e_ => HO_9.out.1 k_ e_)); replace HO382 := Aside0.mk (Kd.R_mono (ok' := fun k_ => some k_ ≠ (.slice Ao44 t367.length co44 : Value).ownBlock) (Kd.R_keptB (HO382.out) hkp (fun k_ hk_ hs_ => (hk_) hs_)) (fun k_ hk_ => hk_.1)); replace HB := Aside0.mk (hb); (try clear hb); (try clear hkp); (try clear hy0)))
                (try simp only [Act.put, List.setIfInBounds_toArray, List.set_cons_zero, List.set_cons_succ])
                go_cut [82] (fun v82 wc => ∃ (kq : Nat) (x82_78 : Bool), v82 = .bool x82_78 ∧ Aside0 (laws_FnExactPutRaws.j1 kq l1 t361 x82_78 l0_0 t358 t370 = some r) ∧ Aside0 (kq ≤ kj19) ∧ Aside0 (Kd.R k71 71 wc w.heap.size (fun k_ => some k_ ≠ ((.slice Ao38 t363.length co38) : Value).ownBlock ∧ some k_ ≠ ((.slice Ao47 t370.length co47) : Value).ownBlock) (.slice Ao32 t358.length co32) t358) ∧ Aside0 (Kd.R k71 71 wc w.heap.size (fun k_ => some k_ ≠ ((.slice Ao32 t358.length co32) : Value).ownBlock ∧ some k_ ≠ ((.slice Ao47 t370.length co47) : Value).ownBlock) (.slice Ao38 t363.length co38) t385) ∧ Aside0 (Kd.R k71 71 wc w.heap.size (fun k_ => some k_ ≠ ((.slice Ao32 t358.length co32) : Value).ownBlock ∧ some k_ ≠ ((.slice Ao38 t363.length co38) : Value).ownBlock) (.slice Ao47 t370.length co47) t370) ∧ Aside0 (wc.heap[gb349]? = some (.cells #[(.slice A0_0 l0_0.length c0_0)] 24 (0, 0))) ∧ Aside0 (wc.heap[gb362]? = some (.cells #[(.slice Ao32 t358.length co32)] 30 (0, 0))) ∧ Aside0 (wc.heap[gb366]? = some (.cells #[(.slice Ao38 t363.length co38)] 30 (0, 0))) ∧ Aside0 (wc.heap[gb374]? = some (.cells #[(.slice Ao47 t370.length co47)] 30 (0, 0))) ∧ Aside0 (Below w.heap.size w wc))
                case first =>
                  have H := HC79.out
                  clear HC79
                  by_cases c93 : t386 < 0
                  · rw [if_pos c93] at H
                    have c93b0 : decide (t386 < 0) = true := decide_eq_true c93
                    clear c93
                    (first | rw [c93b0] | (simp only [i64_w, i32_w]; rw [c93b0]) | skip)
                    have H' := Aside0.mk H
                    clear H
                    go_wp2
                    go_meet
                    case rel => exact ⟨_, (true), t19_, H', ⟨by have := HJ19.out; first | omega | exact Nat.le_refl _⟩, ⟨by (with_reducible repeat (first | apply Kd.R_alloc | apply Kd.R_drewN | apply Kd.R_drew)); exact Kd.R_mono HO_363000.out (fun _ hk => ⟨hk.1, hk.2.1⟩)⟩, ⟨by (with_reducible repeat (first | apply Kd.R_alloc | apply Kd.R_drewN | apply Kd.R_drew)); exact Kd.R_mono HO_367000.out (fun _ hk => ⟨hk.1, hk.2.1⟩)⟩, ⟨by (with_reducible repeat (first | apply Kd.R_alloc | apply Kd.R_drewN | apply Kd.R_drew)); exact Kd.R_mono HO_375000.out (fun _ hk => ⟨hk.1, hk.2.1⟩)⟩, ⟨by (with_reducible repeat (first | refine blk_drewN ?_ _ | refine blk_drew ?_ | refine blk_alloc ?_ _)); exact BK349.out⟩, ⟨by (with_reducible repeat (first | refine blk_drewN ?_ _ | refine blk_drew ?_ | refine blk_alloc ?_ _)); exact BK362.out⟩, ⟨by (with_reducible repeat (first | refine blk_drewN ?_ _ | refine blk_drew ?_ | refine blk_alloc ?_ _)); exact BK366.out⟩, ⟨by (with_reducible repeat (first | refine blk_drewN ?_ _ | refine blk_drew ?_ | refine blk_alloc ?_ _)); exact BK374.out⟩, ⟨t13_⟩⟩
                  · rw [if_neg c93] at H
                    have c93b0 : decide (t386 < 0) = false := decide_eq_false c93
                    clear c93
                    (first | rw [c93b0] | (simp only [i64_w, i32_w]; rw [c93b0]) | skip)
                    replace H := Option.bind_eq_some_iff.mp H
                    obtain ⟨t388, A940, H⟩ := H
                    replace H : (if t388 = true then (laws_FnExactPutRaws.j1 kj19 l1 t361 (t373 != t361) l0_0 t358 t370) else (laws_FnExactPutRaws.j1 kj19 l1 t361 true l0_0 t358 t370)) = some r := H
                    have A94 := Aside0.mk A940
                    clear A940
                    by_cases c95 : t388 = true
                    · subst c95
                      have H1 : (laws_FnExactPutRaws.j1 kj19 l1 t361 (t373 != t361) l0_0 t358 t370) = some r := by rw [if_pos rfl] at H; exact H
                      clear H
                      have H := H1
                      clear H1
                      have H' := Aside0.mk H
                      clear H
                      have hnb96 := NB374_349.out
                      have hnc96 := NB349_374.out
                      have hnb97 := NB374_362.out
                      have hnc97 := NB362_374.out
                      have hnb98 := NB374_366.out
                      have hnc98 := NB366_374.out
                      have hcz99_0 := bc0 BK374
                      have hfz99_0 := bf BK374 0
                      have hnb100 := NB362_349.out
                      have hnc100 := NB349_362.out
                      have hnb101 := NB362_366.out
                      have hnc101 := NB366_362.out
                      have hcz102_0 := bc0 BK362
                      have hfz102_0 := bf BK362 0
                      go_wp2_with (first | (go_at_call 17; (with_reducible refine (laws_eqDisk.calls kj19 _ _ t370 _ _ t358 true _ ?side1 ?side2 ?side3 ?side4 A94.out).mono ?_); (case side1 => repeat (first | exact (Kd.R_reads' HO_375000.out).2.2 | (with_reducible refine Kd.C_alloc ?_ _) | (with_reducible refine Kd.C_drewN ?_ _) | (with_reducible refine Kd.C_drew ?_))); (case side2 => exact (Kd.R_reads' HO_375000.out).2.1); (case side3 => repeat (first | exact (Kd.R_reads' HO_363000.out).2.2 | (with_reducible refine Kd.C_alloc ?_ _) | (with_reducible refine Kd.C_drewN ?_ _) | (with_reducible refine Kd.C_drew ?_))); (case side4 => exact (Kd.R_reads' HO_363000.out).2.1); rintro e w103 ⟨rfl, hb⟩; replace HO_9 := Aside0.mk (Kd.R_below t59_ hb); replace HO_363000 := Aside0.mk (Kd.R_below t34_ hb); replace HO_367000 := Aside0.mk (Kd.R_below t35_ hb); replace HO_375000 := Aside0.mk (Kd.R_below t36_ hb); replace HO378 := Aside0.mk (Kd.R_below t71_ hb); replace HO382 := Aside0.mk (Kd.R_below (by (with_reducible repeat (first | apply Kd.R_alloc | apply Kd.R_drewN | apply Kd.R_drew)); exact HO382.out) hb); replace BK349 := bkN BK349 hb; replace BK362 := bkN BK362 hb; replace BK366 := bkN BK366 hb; replace BK374 := bkN BK374 hb; replace HB := Aside0.mk (below_step t13_ hb); (try clear hb); (try clear hb2); (try clear hk); (try clear hi)))
                      go_meet
                      case rel => exact ⟨_, ((t373 != t361)), t19_, H', ⟨by have := HJ19.out; first | omega | exact Nat.le_refl _⟩, ⟨by (with_reducible repeat (first | apply Kd.R_alloc | apply Kd.R_drewN | apply Kd.R_drew)); exact Kd.R_mono HO_363000.out (fun _ hk => ⟨hk.1, hk.2.1⟩)⟩, ⟨by (with_reducible repeat (first | apply Kd.R_alloc | apply Kd.R_drewN | apply Kd.R_drew)); exact Kd.R_mono HO_367000.out (fun _ hk => ⟨hk.1, hk.2.1⟩)⟩, ⟨by (with_reducible repeat (first | apply Kd.R_alloc | apply Kd.R_drewN | apply Kd.R_drew)); exact Kd.R_mono HO_375000.out (fun _ hk => ⟨hk.1, hk.2.1⟩)⟩, ⟨by (with_reducible repeat (first | refine blk_drewN ?_ _ | refine blk_drew ?_ | refine blk_alloc ?_ _)); exact BK349.out⟩, ⟨by (with_reducible repeat (first | refine blk_drewN ?_ _ | refine blk_drew ?_ | refine blk_alloc ?_ _)); exact BK362.out⟩, ⟨by (with_reducible repeat (first | refine blk_drewN ?_ _ | refine blk_drew ?_ | refine blk_alloc ?_ _)); exact BK366.out⟩, ⟨by (with_reducible repeat (first | refine blk_drewN ?_ _ | refine blk_drew ?_ | refine blk_alloc ?_ _)); exact BK374.out⟩, ⟨t13_⟩⟩
                    · replace c95 := Bool.eq_false_iff.mpr c95
                      subst c95
                      have H1 : (laws_FnExactPutRaws.j1 kj19 l1 t361 true l0_0 t358 t370) = some r := by rw [if_neg (show ¬ (false = true) by decide)] at H; exact H
                      clear H
                      have H := H1
                      clear H1
                      have H' := Aside0.mk H
                      clear H
                      have hnb104 := NB374_349.out
                      have hnc104 := NB349_374.out
                      have hnb105 := NB374_362.out
                      have hnc105 := NB362_374.out
                      have hnb106 := NB374_366.out
                      have hnc106 := NB366_374.out
                      have hcz107_0 := bc0 BK374
                      have hfz107_0 := bf BK374 0
                      have hnb108 := NB362_349.out
                      have hnc108 := NB349_362.out
                      have hnb109 := NB362_366.out
                      have hnc109 := NB366_362.out
                      have hcz110_0 := bc0 BK362
                      have hfz110_0 := bf BK362 0
                      go_wp2_with (first | (go_at_call 17; (with_reducible refine (laws_eqDisk.calls kj19 _ _ t370 _ _ t358 false _ ?side1 ?side2 ?side3 ?side4 A94.out).mono ?_); (case side1 => repeat (first | exact (Kd.R_reads' HO_375000.out).2.2 | (with_reducible refine Kd.C_alloc ?_ _) | (with_reducible refine Kd.C_drewN ?_ _) | (with_reducible refine Kd.C_drew ?_))); (case side2 => exact (Kd.R_reads' HO_375000.out).2.1); (case side3 => repeat (first | exact (Kd.R_reads' HO_363000.out).2.2 | (with_reducible refine Kd.C_alloc ?_ _) | (with_reducible refine Kd.C_drewN ?_ _) | (with_reducible refine Kd.C_drew ?_))); (case side4 => exact (Kd.R_reads' HO_363000.out).2.1); rintro e w111 ⟨rfl, hb⟩; replace HO_9 := Aside0.mk (Kd.R_below t59_ hb); replace HO_363000 := Aside0.mk (Kd.R_below t34_ hb); replace HO_367000 := Aside0.mk (Kd.R_below t35_ hb); replace HO_375000 := Aside0.mk (Kd.R_below t36_ hb); replace HO378 := Aside0.mk (Kd.R_below t71_ hb); replace HO382 := Aside0.mk (Kd.R_below (by (with_reducible repeat (first | apply Kd.R_alloc | apply Kd.R_drewN | apply Kd.R_drew)); exact HO382.out) hb); replace BK349 := bkN BK349 hb; replace BK362 := bkN BK362 hb; replace BK366 := bkN BK366 hb; replace BK374 := bkN BK374 hb; replace HB := Aside0.mk (below_step t13_ hb); (try clear hb); (try clear hb2); (try clear hk); (try clear hi)))
                      go_meet
                      case rel => exact ⟨_, (true), t19_, H', ⟨by have := HJ19.out; first | omega | exact Nat.le_refl _⟩, ⟨by (with_reducible repeat (first | apply Kd.R_alloc | apply Kd.R_drewN | apply Kd.R_drew)); exact Kd.R_mono HO_363000.out (fun _ hk => ⟨hk.1, hk.2.1⟩)⟩, ⟨by (with_reducible repeat (first | apply Kd.R_alloc | apply Kd.R_drewN | apply Kd.R_drew)); exact Kd.R_mono HO_367000.out (fun _ hk => ⟨hk.1, hk.2.1⟩)⟩, ⟨by (with_reducible repeat (first | apply Kd.R_alloc | apply Kd.R_drewN | apply Kd.R_drew)); exact Kd.R_mono HO_375000.out (fun _ hk => ⟨hk.1, hk.2.1⟩)⟩, ⟨by (with_reducible repeat (first | refine blk_drewN ?_ _ | refine blk_drew ?_ | refine blk_alloc ?_ _)); exact BK349.out⟩, ⟨by (with_reducible repeat (first | refine blk_drewN ?_ _ | refine blk_drew ?_ | refine blk_alloc ?_ _)); exact BK362.out⟩, ⟨by (with_reducible repeat (first | refine blk_drewN ?_ _ | refine blk_drew ?_ | refine blk_alloc ?_ _)); exact BK366.out⟩, ⟨by (with_reducible repeat (first | refine blk_drewN ?_ _ | refine blk_drew ?_ | refine blk_alloc ?_ _)); exact BK374.out⟩, ⟨t13_⟩⟩
                case rest =>
                  clear HC79
                  try clear c1
                  try clear c2
                  try clear p2
                  try clear c3
                  try clear c4
                  try clear c4b0
                  try clear c5
                  try clear c6
                  try clear c7
                  try clear c8
                  try clear c9
                  try clear c9b0
                  try clear c10
                  try clear c11
                  try clear c12
                  try clear c14
                  try clear c15
                  try clear c17
                  try clear c18
                  try clear c19
                  try clear c20
                  try clear c31
                  try clear c33
                  try clear c39
                  try clear c40
                  try clear c48
                  try clear c49
                  try clear c50
                  try clear c53
                  try clear c54
                  try clear c55
                  try clear c56
                  try clear c58
                  try clear c59
                  try clear c62
                  try clear c63
                  try clear c64
                  try clear c66
                  try clear c67
                  try clear c70
                  try clear c73
                  try clear c76
                  try clear c87
                  try clear c88
                  try clear c89
                  try clear c93
                  try clear c93b0
                  try clear c95
                  try clear c96
                  try clear c97
                  try clear c98
                  try clear c100
                  try clear c101
                  try clear c104
                  try clear c105
                  try clear c106
                  try clear c108
                  try clear c109
                  try clear hcz102_0
                  try clear hcz107_0
                  try clear hcz110_0
                  try clear hcz11_0
                  try clear hcz22_0
                  try clear hcz25_0
                  try clear hcz34_0
                  try clear hcz35_0
                  try clear hcz41_0
                  try clear hcz43_0
                  try clear hcz51_0
                  try clear hcz57_0
                  try clear hcz60_0
                  try clear hcz65_0
                  try clear hcz68_0
                  try clear hcz6_0
                  try clear hcz90_0
                  try clear hcz99_0
                  try clear hfz102_0
                  try clear hfz107_0
                  try clear hfz110_0
                  try clear hfz11_0
                  try clear hfz22_0
                  try clear hfz25_0
                  try clear hfz34_0
                  try clear hfz35_0
                  try clear hfz41_0
                  try clear hfz43_0
                  try clear hfz51_0
                  try clear hfz57_0
                  try clear hfz60_0
                  try clear hfz65_0
                  try clear hfz68_0
                  try clear hfz6_0
                  try clear hfz90_0
                  try clear hfz99_0
                  try clear p2
                  obtain ⟨kq, x82_78, rfl, HA, HJ78, HO_363000, HO_367000, HO_375000, BK349, BK362, BK366, BK374, HB⟩ := hcut
                  have hl367000_78 := (Kd.R_reads' HO_367000.out).1
                  rw [hl367000_78] at HO_367000
                  (try simp only [hl367000_78])
                  (try simp only [hl367000_78] at BK349)
                  (try simp only [hl367000_78] at BK362)
                  (try simp only [hl367000_78] at BK366)
                  (try simp only [hl367000_78] at BK374)
                  (try simp only [hl367000_78] at HO_363000)
                  (try simp only [hl367000_78] at HO_375000)
                  cases kq with
                  | zero => exact absurd HA.out (by simp [laws_FnExactPutRaws.j1])
                  | succ kj78 =>
                    have H := HA.out
                    clear HA
                    simp only [laws_FnExactPutRaws.j1] at H
                    by_cases c112 : x82_78 = true
                    · subst c112
                      have H1 : (none) = some r := by rw [if_pos rfl] at H; exact H
                      clear H
                      have H := H1
                      clear H1
                      exact absurd H (by simp)
                    · replace c112 := Bool.eq_false_iff.mpr c112
                      subst c112
                      have H1 : ((laws_markDisk.f kj78 t370 1).bind fun bt389 => ((laws_heldDisk.f kj78 bt389.2 1).bind fun t391 => (if t391 < 0 then (none) else (if t391 = bt389.1 then ((laws_toDisk.f kj78 l0_0).bind fun t392 => ((laws_toRawS.f kj78 l1).bind fun t395 => ((impl_PutRaws.f kj78 t392 t395).bind fun bt398 => ((laws_eqDisk.f kj78 bt398.1 t358).bind fun t403 => (if t403 = true then (laws_FnExactPutRaws.j2 kj78 bt389.1 (bt398.2 != t361) bt389.2) else (laws_FnExactPutRaws.j2 kj78 bt389.1 true bt389.2)))))) else (none))))) = some r := by rw [if_neg (show ¬ (false = true) by decide)] at H; exact H
                      clear H
                      have H := H1
                      clear H1
                      replace H := Option.bind_eq_some_iff.mp H
                      obtain ⟨⟨t389, t390⟩, A1130, H⟩ := H
                      replace H : ((laws_heldDisk.f kj78 t390 1).bind fun t391 => (if t391 < 0 then (none) else (if t391 = t389 then ((laws_toDisk.f kj78 l0_0).bind fun t392 => ((laws_toRawS.f kj78 l1).bind fun t395 => ((impl_PutRaws.f kj78 t392 t395).bind fun bt398 => ((laws_eqDisk.f kj78 bt398.1 t358).bind fun t403 => (if t403 = true then (laws_FnExactPutRaws.j2 kj78 t389 (bt398.2 != t361) t390) else (laws_FnExactPutRaws.j2 kj78 t389 true t390)))))) else (none)))) = some r := H
                      have A113 := Aside0.mk A1130
                      clear A1130
                      replace H := Option.bind_eq_some_iff.mp H
                      obtain ⟨t391, A1140, H⟩ := H
                      replace H : (if t391 < 0 then (none) else (if t391 = t389 then ((laws_toDisk.f kj78 l0_0).bind fun t392 => ((laws_toRawS.f kj78 l1).bind fun t395 => ((impl_PutRaws.f kj78 t392 t395).bind fun bt398 => ((laws_eqDisk.f kj78 bt398.1 t358).bind fun t403 => (if t403 = true then (laws_FnExactPutRaws.j2 kj78 t389 (bt398.2 != t361) t390) else (laws_FnExactPutRaws.j2 kj78 t389 true t390)))))) else (none))) = some r := H
                      have A114 := Aside0.mk A1140
                      clear A1140
                      by_cases c115 : t391 < 0
                      · rw [if_pos c115] at H
                        exact absurd H (by simp)
                      · rw [if_neg c115] at H
                        have c115b0 : decide (t391 < 0) = false := decide_eq_false c115
                        clear c115
                        by_cases c116 : t391 = t389
                        · rw [if_pos c116] at H
                          have c116b0 : (t391 == t389) = true := beq_iff_eq.mpr c116
                          have c116b1 : (t391 != t389) = false := bne_eq_false_iff_eq.mpr c116
                          clear c116
                          replace H := Option.bind_eq_some_iff.mp H
                          obtain ⟨t392, A1170, H⟩ := H
                          replace H : ((laws_toRawS.f kj78 l1).bind fun t395 => ((impl_PutRaws.f kj78 t392 t395).bind fun bt398 => ((laws_eqDisk.f kj78 bt398.1 t358).bind fun t403 => (if t403 = true then (laws_FnExactPutRaws.j2 kj78 t389 (bt398.2 != t361) t390) else (laws_FnExactPutRaws.j2 kj78 t389 true t390))))) = some r := H
                          have A117 := Aside0.mk A1170
                          clear A1170
                          replace H := Option.bind_eq_some_iff.mp H
                          obtain ⟨t395, A1180, H⟩ := H
                          replace H : ((impl_PutRaws.f kj78 t392 t395).bind fun bt398 => ((laws_eqDisk.f kj78 bt398.1 t358).bind fun t403 => (if t403 = true then (laws_FnExactPutRaws.j2 kj78 t389 (bt398.2 != t361) t390) else (laws_FnExactPutRaws.j2 kj78 t389 true t390)))) = some r := H
                          have A118 := Aside0.mk A1180
                          clear A1180
                          replace H := Option.bind_eq_some_iff.mp H
                          obtain ⟨⟨t398, t401⟩, A1190, H⟩ := H
                          replace H : ((laws_eqDisk.f kj78 t398 t358).bind fun t403 => (if t403 = true then (laws_FnExactPutRaws.j2 kj78 t389 (t401 != t361) t390) else (laws_FnExactPutRaws.j2 kj78 t389 true t390))) = some r := H
                          have A119 := Aside0.mk A1190
                          clear A1190
                          have HC120 := Aside0.mk H
                          clear H
                          have hnb121 := NB374_349.out
                          have hnc121 := NB349_374.out
                          have hnb122 := NB374_362.out
                          have hnc122 := NB362_374.out
                          have hnb123 := NB374_366.out
                          have hnc123 := NB366_374.out
                          have hcz124_0 := bc0 BK374
                          have hfz124_0 := bf BK374 0
                          go_upto_region 32 with (first | ((with_reducible refine gate_callee (f := 19) rfl ?_); refine goesL_ (some 85) rfl rfl Try.func19 (by kernel_rfl) rfl #[.agg #[.slice Ao47 t370.length co47], .int .i64 1] rfl t1_ ?_; (with_reducible refine (laws_markDisk.calls kj78 (fun k_ => some k_ = (.slice Ao47 t370.length co47 : Value).ownBlock) (.slice Ao47 t370.length co47) t370 1 t389 t390 w _ ?side1 ?side2 A113.out).mono ?_); (case side1 => repeat (first | (with_reducible first | exact HB.out | apply below_alloc | apply pw_below_drewN | apply below_drew1 | refine below_set ?_ GE349.out | refine below_set ?_ GE362.out | refine below_set ?_ GE366.out | refine below_set ?_ GE374.out) | exact HB.out)); (case side2 => exact Kd.R_tight rfl HO_375000.out); rintro e w125 ⟨rfl, hy0, hb, hkp⟩; refine ⟨_, rfl, ?_⟩; replace HO_363000 := Aside0.mk (Kd.R_mono (ok' := fun k_ => some k_ ≠ (.slice Ao38 t385.length co38 : Value).ownBlock ∧ some k_ ≠ (.slice Ao47 t370.length co47 : Value).ownBlock) (Kd.R_keptB (HO_363000.out) hkp (fun k_ hk_ hs_ => (hk_.2) hs_)) (fun k_ hk_ => ⟨hk_.1.1, hk_.1.2⟩)); replace HO_367000 := Aside0.mk (Kd.R_mono (ok' := fun k_ => some k_ ≠ (.slice Ao32 t358.length co32 : Value).ownBlock ∧ some k_ ≠ (.slice Ao47 t370.length co47 : Value).ownBlock) (Kd.R_keptB (HO_367000.out) hkp (fun k_ hk_ hs_ => (hk_.2) hs_)) (fun k_ hk_ => ⟨hk_.1.1, hk_.1.2⟩)); replace BK349 := Aside0.mk (blk_kept (by (with_reducible repeat (first | refine blk_drewN ?_ _ | refine blk_drew ?_ | refine blk_alloc ?_ _)); exact BK349.out) hkp (fun hs_ => (fun e_ => (Kd.R_ne HO_375000.out BK349.out (by decide)) e_) hs_)); replace BK362 := Aside0.mk (blk_kept (by (with_reducible repeat (first | refine blk_drewN ?_ _ | refine blk_drew ?_ | refine blk_alloc ?_ _)); exact BK362.out) hkp (fun hs_ => (fun e_ => (Kd.R_ne HO_375000.out BK362.out (by decide)) e_) hs_)); replace BK366 := Aside0.mk (blk_kept (by (with_reducible repeat (first | refine blk_drewN ?_ _ | refine blk_drew ?_ | refine blk_alloc ?_ _)); exact BK366.out) hkp (fun hs_ => (fun e_ => (Kd.R_ne HO_375000.out BK366.out (by decide)) e_) hs_)); replace BK374 := Aside0.mk (blk_kept (by (with_reducible repeat (first | refine blk_drewN ?_ _ | refine blk_drew ?_ | refine blk_alloc ?_ _)); exact BK374.out) hkp (fun hs_ => (fun e_ => (Kd.R_ne HO_375000.out BK374.out (by decide)) e_) hs_)); replace HO_375000 := Aside0.mk (Kd.R_reok rfl hy0 (fun k_ e_ => HO_375000.out.1 k_ e_)); replace HB := Aside0.mk (hb); (try clear hb); (try clear hkp); (try clear hy0); have hcz126_0 := bc0 BK374; have hfz126_0 := bf BK374 0) | ((with_reducible refine gate_callee (f := 21) rfl ?_); refine goesL_ (some 88) rfl rfl Try.func21 (by kernel_rfl) rfl #[.agg #[.slice Ao47 t390.length co47], .int .i64 1] rfl (by (try simp only [List.map_toArray, List.map_cons, List.map_nil]); first | done | (rw [show t390.length = t370.length from (Kd.R_reads' HO_375000.out).1.symm] <;> rfl) | rfl | (simp only [List.length_drop, List.length_take]; rfl)) ?_; (with_reducible refine (laws_heldDisk.calls kj78 _ _ t390 1 t391 _ ?side1 ?side2 A114.out).mono ?_); (case side1 => repeat (first | exact (Kd.R_reads' HO_375000.out).2.2 | (with_reducible refine Kd.C_alloc ?_ _) | (with_reducible refine Kd.C_drewN ?_ _) | (with_reducible refine Kd.C_drew ?_))); (case side2 => rw [show t390.length = t370.length from (Kd.R_reads' HO_375000.out).1.symm]; exact (Kd.R_reads' HO_375000.out).2.1); rintro e w127 ⟨rfl, hb⟩; refine ⟨_, rfl, ?_⟩; replace HO_363000 := Aside0.mk (Kd.R_below t34_ hb); replace HO_367000 := Aside0.mk (Kd.R_below t35_ hb); replace HO_375000 := Aside0.mk (Kd.R_below t36_ hb); replace BK349 := bkN BK349 hb; replace BK362 := bkN BK362 hb; replace BK366 := bkN BK366 hb; replace BK374 := bkN BK374 hb; replace HB := Aside0.mk (below_step t13_ hb); (try clear hb); (try clear hb2); (try clear hk); (try clear hi); have hnb128 := NB349_362.out; have hnc128 := NB362_349.out; have hnb129 := NB349_366.out; have hnc129 := NB366_349.out; have hcz130_0 := bc0 BK349; have hfz130_0 := bf BK349 0) | ((with_reducible refine gate_callee (f := 14) rfl ?_); refine goesL_ (some 96) rfl rfl Try.func14 (by kernel_rfl) rfl #[.agg #[.slice A0_0 l0_0.length c0_0]] rfl t1_ ?_; (with_reducible refine (laws_toDisk.calls kj78 _ _ l0_0 t392 _ ?side1 ?side2 A117.out).mono ?_); (case side1 => exact cB HR0_0 HB); (case side2 => exact HC0_0.out); rintro e w131 ⟨v393, rfl, ho0, hb⟩; refine ⟨_, rfl, ?_⟩; have HO394 := Aside0.mk (Kd.R_lower (Kd.R_new' (Kd.R_new' (Kd.R_new' ho0 (Kd.R_lt t34_)) (Kd.R_lt t35_)) (Kd.R_lt t36_)) (below_size t13_)); replace HO_363000 := Aside0.mk (Kd.R_elder' t34_ (Kd.R_base ho0) hb); replace HO_367000 := Aside0.mk (Kd.R_elder' t35_ (Kd.R_base ho0) hb); replace HO_375000 := Aside0.mk (Kd.R_elder' t36_ (Kd.R_base ho0) hb); replace BK349 := bkN BK349 hb; replace BK362 := bkN BK362 hb; replace BK366 := bkN BK366 hb; replace BK374 := bkN BK374 hb; replace HB := Aside0.mk (below_step t13_ hb); (try clear hb); (try clear hb2); (try clear hk); (try clear hi); (try clear ho0)) | ((with_reducible refine gate_callee (f := 15) rfl ?_); refine goesL_ (some 98) rfl rfl Try.func15 (by kernel_rfl) rfl #[.slice A1 l1.length c1] rfl t1_ ?_; (with_reducible refine (laws_toRawS.calls kj78 _ _ l1 t395 _ ?side1 ?side2 A118.out).mono ?_); (case side1 => exact cB HR1 HB); (case side2 => exact HC1.out); rintro e w132 ⟨v396, rfl, ho0, hb⟩; refine ⟨_, rfl, ?_⟩; replace HO_363000 := Aside0.mk (Kd.R_below t34_ hb); replace HO_367000 := Aside0.mk (Kd.R_below t35_ hb); replace HO_375000 := Aside0.mk (Kd.R_below t36_ hb); replace HO394 := Aside0.mk (Kd.R_below t77_ hb); have HO397 := Aside0.mk (Kd.R_lower ho0 (below_size t13_)); replace BK349 := bkN BK349 hb; replace BK362 := bkN BK362 hb; replace BK366 := bkN BK366 hb; replace BK374 := bkN BK374 hb; replace HB := Aside0.mk (below_step t13_ hb); (try clear hb); (try clear hb2); (try clear hk); (try clear hi); (try clear ho0); obtain ⟨Ao133, co133, eo133⟩ := Kd.R_slice HO394.out; subst eo133; obtain ⟨Ao134, co134, eo134⟩ := Kd.R_slice HO397.out; subst eo134) | ((with_reducible refine gate_callee (f := 31) rfl ?_); refine goesL_ (some 99) rfl rfl Try.func31 (by kernel_rfl) rfl #[.agg #[.slice Ao133 t392.length co133], .slice Ao134 t395.length co134] rfl t1_ ?_; (with_reducible refine (impl_PutRaws.calls kj78 _ _ t392 _ _ t395 t398 t401 _ ?side1 ?side2 ?side3 ?side4 A119.out).mono ?_); (case side1 => repeat (first | exact (Kd.R_reads' HO394.out).2.2 | (with_reducible refine Kd.C_alloc ?_ _) | (with_reducible refine Kd.C_drewN ?_ _) | (with_reducible refine Kd.C_drew ?_))); (case side2 => exact (Kd.R_reads' HO394.out).2.1); (case side3 => repeat (first | exact (Kd.R_reads' HO397.out).2.2 | (with_reducible refine Kd.C_alloc ?_ _) | (with_reducible refine Kd.C_drewN ?_ _) | (with_reducible refine Kd.C_drew ?_))); (case side4 => exact (Kd.R_reads' HO397.out).2.1); rintro e w135 ⟨v399, rfl, ho0, hb⟩; refine ⟨_, rfl, ?_⟩; replace HO397 := Aside0.mk (Kd.R_below (by (with_reducible repeat (first | apply Kd.R_alloc | apply Kd.R_drewN | apply Kd.R_drew)); exact HO397.out) hb); have HO400 := Aside0.mk (Kd.R_lower (Kd.R_new' (Kd.R_new' (Kd.R_new' (Kd.R_new' ho0 (Kd.R_lt t34_)) (Kd.R_lt t35_)) (Kd.R_lt t36_)) (Kd.R_lt t77_)) (below_size t13_)); replace HO_363000 := Aside0.mk (Kd.R_elder' t34_ (Kd.R_base ho0) hb); replace HO_367000 := Aside0.mk (Kd.R_elder' t35_ (Kd.R_base ho0) hb); replace HO_375000 := Aside0.mk (Kd.R_elder' t36_ (Kd.R_base ho0) hb); replace HO394 := Aside0.mk (Kd.R_elder' t77_ (Kd.R_base ho0) hb); replace BK349 := bkN BK349 hb; replace BK362 := bkN BK362 hb; replace BK366 := bkN BK366 hb; replace BK374 := bkN BK374 hb; replace HB := Aside0.mk (below_step t13_ hb); (try clear hb); (try clear hb2); (try clear hk); (try clear hi); (try clear ho0)) | ((with_reducible refine gate_dst (N := 15) rfl ?_); refine boxE (N := 15) (cs := #[.slice none 0 0]) (t := 30) (h := ?_); intro gb402 hg w136 hbox hb; replace HO_363000 := Aside0.mk (Kd.R_below t34_ hb); replace HO_367000 := Aside0.mk (Kd.R_below t35_ hb); replace HO_375000 := Aside0.mk (Kd.R_below t36_ hb); replace HO394 := Aside0.mk (Kd.R_below t77_ hb); replace HO397 := Aside0.mk (Kd.R_below (by (with_reducible repeat (first | apply Kd.R_alloc | apply Kd.R_drewN | apply Kd.R_drew)); exact HO397.out) hb); replace HO400 := Aside0.mk (Kd.R_below (by (with_reducible repeat (first | apply Kd.R_alloc | apply Kd.R_drewN | apply Kd.R_drew)); exact HO400.out) hb); have BK402 := Aside0.mk (hbox); have GW402 := Aside0.mk ((by rw [hg]; exact (below_size t13_) : w.heap.size ≤ gb402)); have GE402 := Aside0.mk ((by rw [hg]; exact (below_size t13_) : w.heap.size ≤ gb402)); replace HB := Aside0.mk (below_step t13_ hb); have NB349_402 := nbL BK349 hg; have NB402_349 := nbG BK349 hg; replace BK349 := bkN BK349 hb; have NB362_402 := nbL BK362 hg; have NB402_362 := nbG BK362 hg; replace BK362 := bkN BK362 hb; have NB366_402 := nbL BK366 hg; have NB402_366 := nbG BK366 hg; replace BK366 := bkN BK366 hb; have NB374_402 := nbL BK374 hg; have NB402_374 := nbG BK374 hg; replace BK374 := bkN BK374 hb; clear hb hbox hg; obtain ⟨Ao137, co137, eo137⟩ := Kd.R_slice HO400.out; subst eo137; have hnb138 := NB402_349.out; have hnc138 := NB349_402.out; have hnb139 := NB402_362.out; have hnc139 := NB362_402.out; have hnb140 := NB402_366.out; have hnc140 := NB366_402.out; have hnb141 := NB402_374.out; have hnc141 := NB374_402.out; have hcz142_0 := bc0 BK402; have hfz142_0 := bf BK402 0))
                          (try simp only [Act.put, List.setIfInBounds_toArray, List.set_cons_zero, List.set_cons_succ])
                          go_cut [110] (fun v110 wc => ∃ (kq : Nat) (x110_119 : Bool), v110 = .bool x110_119 ∧ Aside0 (laws_FnExactPutRaws.j2 kq t389 x110_119 t390 = some r) ∧ Aside0 (kq ≤ kj78) ∧ Aside0 (Kd.R k71 71 wc w.heap.size (fun k_ => some k_ ≠ ((.slice Ao38 t385.length co38) : Value).ownBlock ∧ some k_ ≠ ((.slice Ao47 t370.length co47) : Value).ownBlock ∧ some k_ ≠ ((.slice Ao137 t398.length co137) : Value).ownBlock) (.slice Ao32 t358.length co32) t358) ∧ Aside0 (Kd.R k71 71 wc w.heap.size (fun k_ => some k_ ≠ ((.slice Ao32 t358.length co32) : Value).ownBlock ∧ some k_ ≠ ((.slice Ao47 t370.length co47) : Value).ownBlock ∧ some k_ ≠ ((.slice Ao137 t398.length co137) : Value).ownBlock) (.slice Ao38 t385.length co38) t385) ∧ Aside0 (Kd.R k71 71 wc w.heap.size (fun k_ => some k_ ≠ ((.slice Ao32 t358.length co32) : Value).ownBlock ∧ some k_ ≠ ((.slice Ao38 t385.length co38) : Value).ownBlock ∧ some k_ ≠ ((.slice Ao137 t398.length co137) : Value).ownBlock) (.slice Ao47 t370.length co47) t390) ∧ Aside0 (Kd.R k71 71 wc w.heap.size (fun k_ => some k_ ≠ ((.slice Ao32 t358.length co32) : Value).ownBlock ∧ some k_ ≠ ((.slice Ao38 t385.length co38) : Value).ownBlock ∧ some k_ ≠ ((.slice Ao47 t370.length co47) : Value).ownBlock) (.slice Ao137 t398.length co137) t398) ∧ Aside0 (wc.heap[gb349]? = some (.cells #[(.slice A0_0 l0_0.length c0_0)] 24 (0, 0))) ∧ Aside0 (wc.heap[gb362]? = some (.cells #[(.slice Ao32 t358.length co32)] 30 (0, 0))) ∧ Aside0 (wc.heap[gb366]? = some (.cells #[(.slice Ao38 t385.length co38)] 30 (0, 0))) ∧ Aside0 (wc.heap[gb374]? = some (.cells #[(.slice Ao47 t370.length co47)] 30 (0, 0))) ∧ Aside0 (wc.heap[gb402]? = some (.cells #[(.slice Ao137 t398.length co137)] 30 (0, 0))) ∧ Aside0 (Below w.heap.size w wc))
                          case first =>
                            have H := HC120.out
                            clear HC120
                            replace H := Option.bind_eq_some_iff.mp H
                            obtain ⟨t403, A1430, H⟩ := H
                            replace H : (if t403 = true then (laws_FnExactPutRaws.j2 kj78 t389 (t401 != t361) t390) else (laws_FnExactPutRaws.j2 kj78 t389 true t390)) = some r := H
                            have A143 := Aside0.mk A1430
                            clear A1430
                            by_cases c144 : t403 = true
                            · subst c144
                              have H1 : (laws_FnExactPutRaws.j2 kj78 t389 (t401 != t361) t390) = some r := by rw [if_pos rfl] at H; exact H
                              clear H
                              have H := H1
                              clear H1
                              have H' := Aside0.mk H
                              clear H
                              have hnb145 := NB402_349.out
                              have hnc145 := NB349_402.out
                              have hnb146 := NB402_362.out
                              have hnc146 := NB362_402.out
                              have hnb147 := NB402_366.out
                              have hnc147 := NB366_402.out
                              have hnb148 := NB402_374.out
                              have hnc148 := NB374_402.out
                              have hcz149_0 := bc0 BK402
                              have hfz149_0 := bf BK402 0
                              have hnb150 := NB362_349.out
                              have hnc150 := NB349_362.out
                              have hnb151 := NB362_366.out
                              have hnc151 := NB366_362.out
                              have hnb152 := NB362_374.out
                              have hnc152 := NB374_362.out
                              have hcz153_0 := bc0 BK362
                              have hfz153_0 := bf BK362 0
                              go_wp2_with (first | ((with_reducible refine gate_callee (f := 17) rfl ?_); refine goesL_ (some 104) rfl rfl Try.func17 (by kernel_rfl) rfl #[.agg #[.slice Ao137 t398.length co137], .agg #[.slice Ao32 t358.length co32]] rfl t1_ ?_; (with_reducible refine (laws_eqDisk.calls kj78 _ _ t398 _ _ t358 true _ ?side1 ?side2 ?side3 ?side4 A143.out).mono ?_); (case side1 => refine (Kd.R_reads' (e := 71) (base := w.heap.size) (ok := fun k_ => ((((True ∧ some k_ ≠ (.slice Ao32 t358.length co32 : Value).ownBlock) ∧ some k_ ≠ (.slice Ao38 t385.length co38 : Value).ownBlock) ∧ some k_ ≠ (.slice Ao47 t370.length co47 : Value).ownBlock) ∧ some k_ ≠ (.slice Ao133 t392.length co133 : Value).ownBlock)) (n := t398.length) (c := co137) ?_).2.2; exact (by (with_reducible repeat (first | apply Kd.R_alloc | apply Kd.R_drewN | apply Kd.R_drew)); exact (Kd.R_mono (Kd.R_far (p := ⟨gb402, 0, none⟩) (Kd.R_types HO400.out BK402.out (by decide)) (fun _ hk => hk.2) (.slice Ao137 t398.length co137)) (fun _ h_ => h_.1)))); (case side2 => exact (Kd.R_reads' HO400.out).2.1); (case side3 => refine (Kd.R_reads' (e := 71) (base := w.heap.size) (ok := fun k_ => (((some k_ ≠ (.slice Ao38 t385.length co38 : Value).ownBlock ∧ some k_ ≠ (.slice Ao47 t370.length co47 : Value).ownBlock) ∧ some k_ ≠ (.slice Ao133 t392.length co133 : Value).ownBlock) ∧ some k_ ≠ (.slice Ao137 t398.length co137 : Value).ownBlock)) (n := t358.length) (c := co32) ?_).2.2; exact (by (with_reducible repeat (first | apply Kd.R_alloc | apply Kd.R_drewN | apply Kd.R_drew)); exact (Kd.R_mono (Kd.R_far (p := ⟨gb402, 0, none⟩) (Kd.R_types HO_363000.out BK402.out (by decide)) (fun _ hk => hk.2) (.slice Ao137 t398.length co137)) (fun _ h_ => h_.1)))); (case side4 => exact (Kd.R_reads' HO_363000.out).2.1); rintro e w154 ⟨rfl, hb⟩; refine ⟨_, rfl, ?_⟩; replace HO_363000 := Aside0.mk (Kd.R_below (by (with_reducible repeat (first | apply Kd.R_alloc | apply Kd.R_drewN | apply Kd.R_drew)); exact (Kd.R_mono (Kd.R_far (p := ⟨gb402, 0, none⟩) (Kd.R_types HO_363000.out BK402.out (by decide)) (fun _ hk => hk.2) (.slice Ao137 t398.length co137)) (fun _ h_ => h_.1))) hb); replace HO_367000 := Aside0.mk (Kd.R_below (by (with_reducible repeat (first | apply Kd.R_alloc | apply Kd.R_drewN | apply Kd.R_drew)); exact (Kd.R_mono (Kd.R_far (p := ⟨gb402, 0, none⟩) (Kd.R_types HO_367000.out BK402.out (by decide)) (fun _ hk => hk.2) (.slice Ao137 t398.length co137)) (fun _ h_ => h_.1))) hb); replace HO_375000 := Aside0.mk (Kd.R_below (by (with_reducible repeat (first | apply Kd.R_alloc | apply Kd.R_drewN | apply Kd.R_drew)); exact (Kd.R_mono (Kd.R_far (p := ⟨gb402, 0, none⟩) (Kd.R_types HO_375000.out BK402.out (by decide)) (fun _ hk => hk.2) (.slice Ao137 t398.length co137)) (fun _ h_ => h_.1))) hb); replace HO394 := Aside0.mk (Kd.R_below (by (with_reducible repeat (first | apply Kd.R_alloc | apply Kd.R_drewN | apply Kd.R_drew)); exact (Kd.R_mono (Kd.R_far (p := ⟨gb402, 0, none⟩) (Kd.R_types HO394.out BK402.out (by decide)) (fun _ hk => hk.2) (.slice Ao137 t398.length co137)) (fun _ h_ => h_.1))) hb); replace HO397 := Aside0.mk (Kd.R_below (by (with_reducible repeat (first | apply Kd.R_alloc | apply Kd.R_drewN | apply Kd.R_drew)); exact (Kd.R_mono (Kd.R_far (p := ⟨gb402, 0, none⟩) (Kd.R_types HO397.out BK402.out (by decide)) (fun _ hk => hk.2) (.slice Ao137 t398.length co137)) (fun _ h_ => h_.1))) hb); replace HO400 := Aside0.mk (Kd.R_below (by (with_reducible repeat (first | apply Kd.R_alloc | apply Kd.R_drewN | apply Kd.R_drew)); exact (Kd.R_mono (Kd.R_far (p := ⟨gb402, 0, none⟩) (Kd.R_types HO400.out BK402.out (by decide)) (fun _ hk => hk.2) (.slice Ao137 t398.length co137)) (fun _ h_ => h_.1))) hb); replace BK349 := bkF BK349 NB349_402 hb; replace BK362 := bkF BK362 NB362_402 hb; replace BK366 := bkF BK366 NB366_402 hb; replace BK374 := bkF BK374 NB374_402 hb; replace BK402 := Aside0.mk (blk_below (g := gb402) (o := .cells #[.slice Ao137 t398.length co137] 30 (0, 0)) (by (with_reducible repeat (first | refine blk_drewN ?_ _ | refine blk_drew ?_ | refine blk_alloc ?_ _)); refine blk_put (cs := #[.slice none 0 0]) ?_ 0 _ rfl; (with_reducible repeat (first | refine blk_drewN ?_ _ | refine blk_drew ?_ | refine blk_alloc ?_ _)); exact BK402.out) hb); replace HB := Aside0.mk (below_step t33_ hb); (try clear hb); (try clear hb2); (try clear hk); (try clear hi)))
                              go_meet
                              case rel => exact ⟨_, ((t401 != t361)), t19_, H', ⟨by have := HJ19.out; have := HJ78.out; first | omega | exact Nat.le_refl _⟩, ⟨by (try simp only [hl367000_78]); (with_reducible repeat (first | apply Kd.R_alloc | apply Kd.R_drewN | apply Kd.R_drew)); exact Kd.R_mono HO_363000.out (fun _ hk => ⟨hk.1.1.1, ⟨hk.1.1.2, hk.2⟩⟩)⟩, ⟨by (try simp only [hl367000_78]); (with_reducible repeat (first | apply Kd.R_alloc | apply Kd.R_drewN | apply Kd.R_drew)); exact Kd.R_mono HO_367000.out (fun _ hk => ⟨hk.1.1.1, ⟨hk.1.1.2, hk.2⟩⟩)⟩, ⟨by (try simp only [hl367000_78]); (with_reducible repeat (first | apply Kd.R_alloc | apply Kd.R_drewN | apply Kd.R_drew)); exact Kd.R_mono HO_375000.out (fun _ hk => ⟨hk.1.1.1, ⟨hk.1.1.2, hk.2⟩⟩)⟩, ⟨by (try simp only [hl367000_78]); (with_reducible repeat (first | apply Kd.R_alloc | apply Kd.R_drewN | apply Kd.R_drew)); exact Kd.R_mono HO400.out (fun _ hk => ⟨hk.1.1.1.2, ⟨hk.1.1.2, hk.1.2⟩⟩)⟩, ⟨by (try simp only [hl367000_78]); (with_reducible repeat (first | refine blk_drewN ?_ _ | refine blk_drew ?_ | refine blk_alloc ?_ _)); exact BK349.out⟩, ⟨by (try simp only [hl367000_78]); (with_reducible repeat (first | refine blk_drewN ?_ _ | refine blk_drew ?_ | refine blk_alloc ?_ _)); exact BK362.out⟩, ⟨by (try simp only [hl367000_78]); (with_reducible repeat (first | refine blk_drewN ?_ _ | refine blk_drew ?_ | refine blk_alloc ?_ _)); exact BK366.out⟩, ⟨by (try simp only [hl367000_78]); (with_reducible repeat (first | refine blk_drewN ?_ _ | refine blk_drew ?_ | refine blk_alloc ?_ _)); exact BK374.out⟩, ⟨by (try simp only [hl367000_78]); (with_reducible repeat (first | refine blk_drewN ?_ _ | refine blk_drew ?_ | refine blk_alloc ?_ _)); exact BK402.out⟩, ⟨t33_⟩⟩
                            · replace c144 := Bool.eq_false_iff.mpr c144
                              subst c144
                              have H1 : (laws_FnExactPutRaws.j2 kj78 t389 true t390) = some r := by rw [if_neg (show ¬ (false = true) by decide)] at H; exact H
                              clear H
                              have H := H1
                              clear H1
                              have H' := Aside0.mk H
                              clear H
                              have hnb155 := NB402_349.out
                              have hnc155 := NB349_402.out
                              have hnb156 := NB402_362.out
                              have hnc156 := NB362_402.out
                              have hnb157 := NB402_366.out
                              have hnc157 := NB366_402.out
                              have hnb158 := NB402_374.out
                              have hnc158 := NB374_402.out
                              have hcz159_0 := bc0 BK402
                              have hfz159_0 := bf BK402 0
                              have hnb160 := NB362_349.out
                              have hnc160 := NB349_362.out
                              have hnb161 := NB362_366.out
                              have hnc161 := NB366_362.out
                              have hnb162 := NB362_374.out
                              have hnc162 := NB374_362.out
                              have hcz163_0 := bc0 BK362
                              have hfz163_0 := bf BK362 0
                              go_wp2_with (first | ((with_reducible refine gate_callee (f := 17) rfl ?_); refine goesL_ (some 104) rfl rfl Try.func17 (by kernel_rfl) rfl #[.agg #[.slice Ao137 t398.length co137], .agg #[.slice Ao32 t358.length co32]] rfl t1_ ?_; (with_reducible refine (laws_eqDisk.calls kj78 _ _ t398 _ _ t358 false _ ?side1 ?side2 ?side3 ?side4 A143.out).mono ?_); (case side1 => refine (Kd.R_reads' (e := 71) (base := w.heap.size) (ok := fun k_ => ((((True ∧ some k_ ≠ (.slice Ao32 t358.length co32 : Value).ownBlock) ∧ some k_ ≠ (.slice Ao38 t385.length co38 : Value).ownBlock) ∧ some k_ ≠ (.slice Ao47 t370.length co47 : Value).ownBlock) ∧ some k_ ≠ (.slice Ao133 t392.length co133 : Value).ownBlock)) (n := t398.length) (c := co137) ?_).2.2; exact (by (with_reducible repeat (first | apply Kd.R_alloc | apply Kd.R_drewN | apply Kd.R_drew)); exact (Kd.R_mono (Kd.R_far (p := ⟨gb402, 0, none⟩) (Kd.R_types HO400.out BK402.out (by decide)) (fun _ hk => hk.2) (.slice Ao137 t398.length co137)) (fun _ h_ => h_.1)))); (case side2 => exact (Kd.R_reads' HO400.out).2.1); (case side3 => refine (Kd.R_reads' (e := 71) (base := w.heap.size) (ok := fun k_ => (((some k_ ≠ (.slice Ao38 t385.length co38 : Value).ownBlock ∧ some k_ ≠ (.slice Ao47 t370.length co47 : Value).ownBlock) ∧ some k_ ≠ (.slice Ao133 t392.length co133 : Value).ownBlock) ∧ some k_ ≠ (.slice Ao137 t398.length co137 : Value).ownBlock)) (n := t358.length) (c := co32) ?_).2.2; exact (by (with_reducible repeat (first | apply Kd.R_alloc | apply Kd.R_drewN | apply Kd.R_drew)); exact (Kd.R_mono (Kd.R_far (p := ⟨gb402, 0, none⟩) (Kd.R_types HO_363000.out BK402.out (by decide)) (fun _ hk => hk.2) (.slice Ao137 t398.length co137)) (fun _ h_ => h_.1)))); (case side4 => exact (Kd.R_reads' HO_363000.out).2.1); rintro e w164 ⟨rfl, hb⟩; refine ⟨_, rfl, ?_⟩; replace HO_363000 := Aside0.mk (Kd.R_below (by (with_reducible repeat (first | apply Kd.R_alloc | apply Kd.R_drewN | apply Kd.R_drew)); exact (Kd.R_mono (Kd.R_far (p := ⟨gb402, 0, none⟩) (Kd.R_types HO_363000.out BK402.out (by decide)) (fun _ hk => hk.2) (.slice Ao137 t398.length co137)) (fun _ h_ => h_.1))) hb); replace HO_367000 := Aside0.mk (Kd.R_below (by (with_reducible repeat (first | apply Kd.R_alloc | apply Kd.R_drewN | apply Kd.R_drew)); exact (Kd.R_mono (Kd.R_far (p := ⟨gb402, 0, none⟩) (Kd.R_types HO_367000.out BK402.out (by decide)) (fun _ hk => hk.2) (.slice Ao137 t398.length co137)) (fun _ h_ => h_.1))) hb); replace HO_375000 := Aside0.mk (Kd.R_below (by (with_reducible repeat (first | apply Kd.R_alloc | apply Kd.R_drewN | apply Kd.R_drew)); exact (Kd.R_mono (Kd.R_far (p := ⟨gb402, 0, none⟩) (Kd.R_types HO_375000.out BK402.out (by decide)) (fun _ hk => hk.2) (.slice Ao137 t398.length co137)) (fun _ h_ => h_.1))) hb); replace HO394 := Aside0.mk (Kd.R_below (by (with_reducible repeat (first | apply Kd.R_alloc | apply Kd.R_drewN | apply Kd.R_drew)); exact (Kd.R_mono (Kd.R_far (p := ⟨gb402, 0, none⟩) (Kd.R_types HO394.out BK402.out (by decide)) (fun _ hk => hk.2) (.slice Ao137 t398.length co137)) (fun _ h_ => h_.1))) hb); replace HO397 := Aside0.mk (Kd.R_below (by (with_reducible repeat (first | apply Kd.R_alloc | apply Kd.R_drewN | apply Kd.R_drew)); exact (Kd.R_mono (Kd.R_far (p := ⟨gb402, 0, none⟩) (Kd.R_types HO397.out BK402.out (by decide)) (fun _ hk => hk.2) (.slice Ao137 t398.length co137)) (fun _ h_ => h_.1))) hb); replace HO400 := Aside0.mk (Kd.R_below (by (with_reducible repeat (first | apply Kd.R_alloc | apply Kd.R_drewN | apply Kd.R_drew)); exact (Kd.R_mono (Kd.R_far (p := ⟨gb402, 0, none⟩) (Kd.R_types HO400.out BK402.out (by decide)) (fun _ hk => hk.2) (.slice Ao137 t398.length co137)) (fun _ h_ => h_.1))) hb); replace BK349 := bkF BK349 NB349_402 hb; replace BK362 := bkF BK362 NB362_402 hb; replace BK366 := bkF BK366 NB366_402 hb; replace BK374 := bkF BK374 NB374_402 hb; replace BK402 := Aside0.mk (blk_below (g := gb402) (o := .cells #[.slice Ao137 t398.length co137] 30 (0, 0)) (by (with_reducible repeat (first | refine blk_drewN ?_ _ | refine blk_drew ?_ | refine blk_alloc ?_ _)); refine blk_put (cs := #[.slice none 0 0]) ?_ 0 _ rfl; (with_reducible repeat (first | refine blk_drewN ?_ _ | refine blk_drew ?_ | refine blk_alloc ?_ _)); exact BK402.out) hb); replace HB := Aside0.mk (below_step t33_ hb); (try clear hb); (try clear hb2); (try clear hk); (try clear hi)))
                              go_meet
                              case rel => exact ⟨_, (true), t19_, H', ⟨by have := HJ19.out; have := HJ78.out; first | omega | exact Nat.le_refl _⟩, ⟨by (try simp only [hl367000_78]); (with_reducible repeat (first | apply Kd.R_alloc | apply Kd.R_drewN | apply Kd.R_drew)); exact Kd.R_mono HO_363000.out (fun _ hk => ⟨hk.1.1.1, ⟨hk.1.1.2, hk.2⟩⟩)⟩, ⟨by (try simp only [hl367000_78]); (with_reducible repeat (first | apply Kd.R_alloc | apply Kd.R_drewN | apply Kd.R_drew)); exact Kd.R_mono HO_367000.out (fun _ hk => ⟨hk.1.1.1, ⟨hk.1.1.2, hk.2⟩⟩)⟩, ⟨by (try simp only [hl367000_78]); (with_reducible repeat (first | apply Kd.R_alloc | apply Kd.R_drewN | apply Kd.R_drew)); exact Kd.R_mono HO_375000.out (fun _ hk => ⟨hk.1.1.1, ⟨hk.1.1.2, hk.2⟩⟩)⟩, ⟨by (try simp only [hl367000_78]); (with_reducible repeat (first | apply Kd.R_alloc | apply Kd.R_drewN | apply Kd.R_drew)); exact Kd.R_mono HO400.out (fun _ hk => ⟨hk.1.1.1.2, ⟨hk.1.1.2, hk.1.2⟩⟩)⟩, ⟨by (try simp only [hl367000_78]); (with_reducible repeat (first | refine blk_drewN ?_ _ | refine blk_drew ?_ | refine blk_alloc ?_ _)); exact BK349.out⟩, ⟨by (try simp only [hl367000_78]); (with_reducible repeat (first | refine blk_drewN ?_ _ | refine blk_drew ?_ | refine blk_alloc ?_ _)); exact BK362.out⟩, ⟨by (try simp only [hl367000_78]); (with_reducible repeat (first | refine blk_drewN ?_ _ | refine blk_drew ?_ | refine blk_alloc ?_ _)); exact BK366.out⟩, ⟨by (try simp only [hl367000_78]); (with_reducible repeat (first | refine blk_drewN ?_ _ | refine blk_drew ?_ | refine blk_alloc ?_ _)); exact BK374.out⟩, ⟨by (try simp only [hl367000_78]); (with_reducible repeat (first | refine blk_drewN ?_ _ | refine blk_drew ?_ | refine blk_alloc ?_ _)); exact BK402.out⟩, ⟨t33_⟩⟩
                          case rest =>
                            clear HC120
                            try clear c1
                            try clear c2
                            try clear p2
                            try clear c3
                            try clear c4
                            try clear c4b0
                            try clear c5
                            try clear c6
                            try clear c7
                            try clear c8
                            try clear c9
                            try clear c9b0
                            try clear c10
                            try clear c11
                            try clear c12
                            try clear c13
                            try clear c14
                            try clear c15
                            try clear c16
                            try clear c17
                            try clear c18
                            try clear c19
                            try clear c20
                            try clear c21
                            try clear c31
                            try clear c33
                            try clear c39
                            try clear c40
                            try clear c48
                            try clear c49
                            try clear c50
                            try clear c53
                            try clear c54
                            try clear c55
                            try clear c56
                            try clear c58
                            try clear c59
                            try clear c62
                            try clear c63
                            try clear c64
                            try clear c66
                            try clear c67
                            try clear c70
                            try clear c73
                            try clear c76
                            try clear c87
                            try clear c88
                            try clear c89
                            try clear c93
                            try clear c93b0
                            try clear c95
                            try clear c96
                            try clear c97
                            try clear c98
                            try clear c100
                            try clear c101
                            try clear c104
                            try clear c105
                            try clear c106
                            try clear c108
                            try clear c109
                            try clear c112
                            try clear c115
                            try clear c115b0
                            try clear c116
                            try clear c116b0
                            try clear c116b1
                            try clear c121
                            try clear c122
                            try clear c123
                            try clear c128
                            try clear c129
                            try clear c138
                            try clear c139
                            try clear c140
                            try clear c141
                            try clear c144
                            try clear c145
                            try clear c146
                            try clear c147
                            try clear c148
                            try clear c150
                            try clear c151
                            try clear c152
                            try clear c155
                            try clear c156
                            try clear c157
                            try clear c158
                            try clear c160
                            try clear c161
                            try clear c162
                            try clear hcz102_0
                            try clear hcz107_0
                            try clear hcz110_0
                            try clear hcz11_0
                            try clear hcz124_0
                            try clear hcz126_0
                            try clear hcz130_0
                            try clear hcz142_0
                            try clear hcz149_0
                            try clear hcz153_0
                            try clear hcz159_0
                            try clear hcz163_0
                            try clear hcz22_0
                            try clear hcz25_0
                            try clear hcz34_0
                            try clear hcz35_0
                            try clear hcz41_0
                            try clear hcz43_0
                            try clear hcz51_0
                            try clear hcz57_0
                            try clear hcz60_0
                            try clear hcz65_0
                            try clear hcz68_0
                            try clear hcz6_0
                            try clear hcz90_0
                            try clear hcz99_0
                            try clear hfz102_0
                            try clear hfz107_0
                            try clear hfz110_0
                            try clear hfz11_0
                            try clear hfz124_0
                            try clear hfz126_0
                            try clear hfz130_0
                            try clear hfz142_0
                            try clear hfz149_0
                            try clear hfz153_0
                            try clear hfz159_0
                            try clear hfz163_0
                            try clear hfz22_0
                            try clear hfz25_0
                            try clear hfz34_0
                            try clear hfz35_0
                            try clear hfz41_0
                            try clear hfz43_0
                            try clear hfz51_0
                            try clear hfz57_0
                            try clear hfz60_0
                            try clear hfz65_0
                            try clear hfz68_0
                            try clear hfz6_0
                            try clear hfz90_0
                            try clear hfz99_0
                            try clear p2
                            obtain ⟨kq, x110_119, rfl, HA, HJ119, HO_363000, HO_367000, HO_375000, HO_403000, BK349, BK362, BK366, BK374, BK402, HB⟩ := hcut
                            have hl375000_119 := (Kd.R_reads' HO_375000.out).1
                            rw [hl375000_119] at HO_375000
                            (try simp only [hl375000_119])
                            (try simp only [hl375000_119] at BK349)
                            (try simp only [hl375000_119] at BK362)
                            (try simp only [hl375000_119] at BK366)
                            (try simp only [hl375000_119] at BK374)
                            (try simp only [hl375000_119] at BK402)
                            (try simp only [hl375000_119] at HO_363000)
                            (try simp only [hl375000_119] at HO_367000)
                            (try simp only [hl375000_119] at HO_403000)
                            cases kq with
                            | zero => exact absurd HA.out (by simp [laws_FnExactPutRaws.j2])
                            | succ kj119 =>
                              have H := HA.out
                              clear HA
                              simp only [laws_FnExactPutRaws.j2] at H
                              by_cases c165 : x110_119 = true
                              · subst c165
                                have H1 : (none) = some r := by rw [if_pos rfl] at H; exact H
                                clear H
                                have H := H1
                                clear H1
                                exact absurd H (by simp)
                              · replace c165 := Bool.eq_false_iff.mpr c165
                                subst c165
                                have H1 : ((laws_heldDisk.f kj119 t390 1).bind fun t404 => (if t404 < 0 then (none) else (if t404 = t389 then (some true) else (none)))) = some r := by rw [if_neg (show ¬ (false = true) by decide)] at H; exact H
                                clear H
                                have H := H1
                                clear H1
                                replace H := Option.bind_eq_some_iff.mp H
                                obtain ⟨t404, A1660, H⟩ := H
                                replace H : (if t404 < 0 then (none) else (if t404 = t389 then (some true) else (none))) = some r := H
                                have A166 := Aside0.mk A1660
                                clear A1660
                                by_cases c167 : t404 < 0
                                · rw [if_pos c167] at H
                                  exact absurd H (by simp)
                                · rw [if_neg c167] at H
                                  have c167b0 : decide (t404 < 0) = false := decide_eq_false c167
                                  clear c167
                                  by_cases c168 : t404 = t389
                                  · rw [if_pos c168] at H
                                    have c168b0 : (t404 == t389) = true := beq_iff_eq.mpr c168
                                    have c168b1 : (t404 != t389) = false := bne_eq_false_iff_eq.mpr c168
                                    clear c168
                                    obtain rfl := Option.some.inj H
                                    have hnb169 := NB374_349.out
                                    have hnc169 := NB349_374.out
                                    have hnb170 := NB374_362.out
                                    have hnc170 := NB362_374.out
                                    have hnb171 := NB374_366.out
                                    have hnc171 := NB366_374.out
                                    have hnb172 := NB374_402.out
                                    have hnc172 := NB402_374.out
                                    have hcz173_0 := bc0 BK374
                                    have hfz173_0 := bf BK374 0
                                    go_wp2_with (first | ((with_reducible refine gate_callee (f := 21) rfl ?_); refine goesL_ (some 113) rfl rfl Try.func21 (by kernel_rfl) rfl #[.agg #[.slice Ao47 t390.length co47], .int .i64 1] rfl t1_ ?_; (with_reducible refine (laws_heldDisk.calls kj119 _ _ t390 1 t404 _ ?side1 ?side2 A166.out).mono ?_); (case side1 => repeat (first | exact (Kd.R_reads' HO_375000.out).2.2 | (with_reducible refine Kd.C_alloc ?_ _) | (with_reducible refine Kd.C_drewN ?_ _) | (with_reducible refine Kd.C_drew ?_))); (case side2 => exact (Kd.R_reads' HO_375000.out).2.1); rintro e w174 ⟨rfl, hb⟩; refine ⟨_, rfl, ?_⟩; replace HO_363000 := Aside0.mk (Kd.R_below t34_ hb); replace HO_367000 := Aside0.mk (Kd.R_below t35_ hb); replace HO_375000 := Aside0.mk (Kd.R_below t36_ hb); replace HO_403000 := Aside0.mk (Kd.R_below (by (with_reducible repeat (first | apply Kd.R_alloc | apply Kd.R_drewN | apply Kd.R_drew)); exact HO_403000.out) hb); replace BK349 := bkN BK349 hb; replace BK362 := bkN BK362 hb; replace BK366 := bkN BK366 hb; replace BK374 := bkN BK374 hb; replace BK402 := bkN BK402 hb; replace HB := Aside0.mk (below_step t33_ hb); (try clear hb); (try clear hb2); (try clear hk); (try clear hi)))
                                    go_ret
                                    exact ⟨by first | rfl | (simp [errW_none, errW_some] <;> rfl) | (simp [*, errW_none, errW_some] <;> rfl), t33_⟩
                                  · rw [if_neg c168] at H
                                    exact absurd H (by simp)
                        · rw [if_neg c116] at H
                          exact absurd H (by simp)
              · replace c76 := Bool.eq_false_iff.mpr c76
                subst c76
                have H1 : (none) = some r := by rw [if_neg (show ¬ (false = true) by decide)] at H; exact H
                clear H
                have H := H1
                clear H1
                exact absurd H (by simp)
            · replace c73 := Bool.eq_false_iff.mpr c73
              subst c73
              have H1 : (none) = some r := by rw [if_neg (show ¬ (false = true) by decide)] at H; exact H
              clear H
              have H := H1
              clear H1
              exact absurd H (by simp)

end Go.Proofs.Ytpjhbhjmaggheaa.QFnExactPutRaws
