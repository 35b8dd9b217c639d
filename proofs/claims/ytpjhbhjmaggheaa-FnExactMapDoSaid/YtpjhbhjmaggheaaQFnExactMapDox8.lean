-- By a program of this session, over the kit's print.
import Derived.Test.YtpjhbhjmaggheaaQFnExactMapDox0
import Derived.Test.YtpjhbhjmaggheaaQFnExactMapDox2
import Derived.Test.YtpjhbhjmaggheaaQFnExactMapDox3
import Derived.Test.YtpjhbhjmaggheaaQFnExactMapDox5
import Derived.Test.YtpjhbhjmaggheaaQFnExactMapDox6
import Derived.Test.YtpjhbhjmaggheaaQFnExactMapDox7
namespace Go.Proofs.Ytpjhbhjmaggheaa.QFnExactMapDo
open Go.RowKit Go.Proofs.YtpjhbhjmaggheaaW.PrintWords Go.Proofs.YtpjhbhjmaggheaaW.PrintLast Go.Proofs.YtpjhbhjmaggheaaW.PrintMore
attribute [local go_sem] max2_int min2_int max_two min_two max_three min_three max_four min_four   -- for this text's walks alone
set_option linter.unusedVariables false
set_option linter.unusedSimpArgs false

/-! ### laws_FnExactMapDo: function 8 -/
mutual
def laws_FnExactMapDo.j0 : Nat → List (S129) → List (S59) → Bool → List (S59) → List (S59) → Bool → Bool → Int → List (S158) → Int → List (S109) → Option (Bool)
  | 0, _, _, _, _, _, _, _, _, _, _, _ => none
  | k + 1, x0, x6, x7, x8, x10, x11, x53, x281000, x281001, x302000, x302001 => if x53 = true then (none) else ((laws_toPairS.f k x0).bind fun t307 => ((laws_eqPairS.f k x8 t307).bind fun t310 => (if t310 = true then ((laws_toBatch.f k x281000 x281001).bind fun bt311 => ((laws_eqBatch.f k x302000 x302001 bt311.1 bt311.2).bind fun t315 => (if t315 = true then ((laws_markPairS.f k x8 1).bind fun bt316 => ((laws_markBatch.f k x302000 x302001 bt316.1).bind fun bt318 => (if bt318.1 < 0 then (laws_FnExactMapDo.j1 k x0 x6 x7 x10 true x281000 x281001) else ((laws_eqPairS.f k x10 x6).bind fun t320 => (if t320 = true then (laws_FnExactMapDo.j1 k x0 x6 x7 x10 (x11 != x7) x281000 x281001) else (laws_FnExactMapDo.j1 k x0 x6 x7 x10 true x281000 x281001)))))) else (none)))) else (none))))
def laws_FnExactMapDo.j1 : Nat → List (S129) → List (S59) → Bool → List (S59) → Bool → Int → List (S158) → Option (Bool)
  | 0, _, _, _, _, _, _, _ => none
  | k + 1, x0, x6, x7, x10, x82, x281000, x281001 => if x82 = true then (none) else ((laws_markPairS.f k x10 1).bind fun bt321 => ((laws_heldPairS.f k bt321.2 1).bind fun t323 => (if t323 < 0 then (none) else (if t323 = bt321.1 then ((laws_toPairS.f k x0).bind fun t324 => ((laws_toBatch.f k x281000 x281001).bind fun bt327 => ((impl_MapDo.f k t324 bt327.1 bt327.2).bind fun bt331 => ((laws_eqPairS.f k bt331.1 x6).bind fun t335 => (if t335 = true then (laws_FnExactMapDo.j2 k bt321.2 bt321.1 (bt331.2 != x7)) else (laws_FnExactMapDo.j2 k bt321.2 bt321.1 true)))))) else (none)))))
def laws_FnExactMapDo.j2 : Nat → List (S59) → Int → Bool → Option (Bool)
  | 0, _, _, _ => none
  | k + 1, x10, x13, x110 => if x110 = true then (none) else ((laws_heldPairS.f k x10 1).bind fun t336 => (if t336 < 0 then (none) else (if t336 = x13 then (some true) else (none))))
end
def laws_FnExactMapDo.f (k : Nat) (l0 : List (S129)) (a1_0 : Int) (l1_1 : List (S158)) : Option (Bool) := (laws_szPairS.f k l0 1048576).bind fun t281 => (if t281 < 0 then (some true) else ((laws_szBatch.f k a1_0 l1_1 t281).bind fun t282 => (if t282 < 0 then (some true) else ((laws_toPairS.f k l0).bind fun t283 => ((laws_toBatch.f k a1_0 l1_1).bind fun bt286 => ((spec_MapDo.f k t283 bt286.1 bt286.2).bind fun bt290 => ((laws_toPairS.f k l0).bind fun t294 => ((laws_toBatch.f k a1_0 l1_1).bind fun bt297 => ((impl_MapDo.f k t294 bt297.1 bt297.2).bind fun bt302 => ((laws_eqPairS.f k bt302.1 bt290.1).bind fun t306 => (if t306 = true then (laws_FnExactMapDo.j0 k l0 bt290.1 bt290.2 t294 bt302.1 bt302.2 (bt302.2 != bt290.2) a1_0 l1_1 bt297.1 bt297.2) else (laws_FnExactMapDo.j0 k l0 bt290.1 bt290.2 t294 bt302.1 bt302.2 true a1_0 l1_1 bt297.1 bt297.2))))))))))))
theorem laws_FnExactMapDo.mono_l : ∀ k, (∀ y0 y1 y2 y3 y4 y5 y6 y7 y8 y9 y10, LeO (laws_FnExactMapDo.j0 k y0 y1 y2 y3 y4 y5 y6 y7 y8 y9 y10) (laws_FnExactMapDo.j0 (k + 1) y0 y1 y2 y3 y4 y5 y6 y7 y8 y9 y10)) ∧ (∀ y0 y1 y2 y3 y4 y5 y6, LeO (laws_FnExactMapDo.j1 k y0 y1 y2 y3 y4 y5 y6) (laws_FnExactMapDo.j1 (k + 1) y0 y1 y2 y3 y4 y5 y6)) ∧ (∀ y0 y1 y2, LeO (laws_FnExactMapDo.j2 k y0 y1 y2) (laws_FnExactMapDo.j2 (k + 1) y0 y1 y2))
  | 0 => ⟨fun _ _ _ _ _ _ _ _ _ _ _ r h => by simp [laws_FnExactMapDo.j0] at h, fun _ _ _ _ _ _ _ r h => by simp [laws_FnExactMapDo.j1] at h, fun _ _ _ r h => by simp [laws_FnExactMapDo.j2] at h⟩
  | k + 1 => by
    obtain ⟨ih0, ih1, ih2⟩ := laws_FnExactMapDo.mono_l k
    refine ⟨?_, ?_, ?_⟩
    · intro y0 y1 y2 y3 y4 y5 y6 y7 y8 y9 y10
      unfold laws_FnExactMapDo.j0
      repeat' first
      | (with_reducible exact ih0 _ _ _ _ _ _ _ _ _ _ _)
      | (with_reducible exact ih1 _ _ _ _ _ _ _)
      | (with_reducible exact ih2 _ _ _)
      | (with_reducible exact impl_MapDo.mono _ _ _ _)
      | (with_reducible exact laws_eqBatch.mono _ _ _ _ _)
      | (with_reducible exact laws_eqPairS.mono _ _ _)
      | (with_reducible exact laws_heldPairS.mono _ _ _)
      | (with_reducible exact laws_markBatch.mono _ _ _ _)
      | (with_reducible exact laws_markPairS.mono _ _ _)
      | (with_reducible exact laws_szBatch.mono _ _ _ _)
      | (with_reducible exact laws_szPairS.mono _ _ _)
      | (with_reducible exact laws_toBatch.mono _ _ _)
      | (with_reducible exact laws_toPairS.mono _ _)
      | (with_reducible exact spec_MapDo.mono _ _ _ _)
      | (with_reducible exact LeO.refl _)
      | (with_reducible exact LeO.none _)
      | (with_reducible refine LeO.ite ?_ ?_)
      | (with_reducible refine LeO.bind ?_ (fun _ => ?_))
      | exact ih0 _ _ _ _ _ _ _ _ _ _ _
      | exact ih1 _ _ _ _ _ _ _
      | exact ih2 _ _ _
      | exact impl_MapDo.mono _ _ _ _
      | exact laws_eqBatch.mono _ _ _ _ _
      | exact laws_eqPairS.mono _ _ _
      | exact laws_heldPairS.mono _ _ _
      | exact laws_markBatch.mono _ _ _ _
      | exact laws_markPairS.mono _ _ _
      | exact laws_szBatch.mono _ _ _ _
      | exact laws_szPairS.mono _ _ _
      | exact laws_toBatch.mono _ _ _
      | exact laws_toPairS.mono _ _
      | exact spec_MapDo.mono _ _ _ _
      | exact LeO.none _
      | refine LeO.ite ?_ ?_
      | refine LeO.bind ?_ (fun _ => ?_)
    · intro y0 y1 y2 y3 y4 y5 y6
      unfold laws_FnExactMapDo.j1
      repeat' first
      | (with_reducible exact ih0 _ _ _ _ _ _ _ _ _ _ _)
      | (with_reducible exact ih1 _ _ _ _ _ _ _)
      | (with_reducible exact ih2 _ _ _)
      | (with_reducible exact impl_MapDo.mono _ _ _ _)
      | (with_reducible exact laws_eqBatch.mono _ _ _ _ _)
      | (with_reducible exact laws_eqPairS.mono _ _ _)
      | (with_reducible exact laws_heldPairS.mono _ _ _)
      | (with_reducible exact laws_markBatch.mono _ _ _ _)
      | (with_reducible exact laws_markPairS.mono _ _ _)
      | (with_reducible exact laws_szBatch.mono _ _ _ _)
      | (with_reducible exact laws_szPairS.mono _ _ _)
      | (with_reducible exact laws_toBatch.mono _ _ _)
      | (with_reducible exact laws_toPairS.mono _ _)
      | (with_reducible exact spec_MapDo.mono _ _ _ _)
      | (with_reducible exact LeO.refl _)
      | (with_reducible exact LeO.none _)
      | (with_reducible refine LeO.ite ?_ ?_)
      | (with_reducible refine LeO.bind ?_ (fun _ => ?_))
      | exact ih0 _ _ _ _ _ _ _ _ _ _ _
      | exact ih1 _ _ _ _ _ _ _
      | exact ih2 _ _ _
      | exact impl_MapDo.mono _ _ _ _
      | exact laws_eqBatch.mono _ _ _ _ _
      | exact laws_eqPairS.mono _ _ _
      | exact laws_heldPairS.mono _ _ _
      | exact laws_markBatch.mono _ _ _ _
      | exact laws_markPairS.mono _ _ _
      | exact laws_szBatch.mono _ _ _ _
      | exact laws_szPairS.mono _ _ _
      | exact laws_toBatch.mono _ _ _
      | exact laws_toPairS.mono _ _
      | exact spec_MapDo.mono _ _ _ _
      | exact LeO.none _
      | refine LeO.ite ?_ ?_
      | refine LeO.bind ?_ (fun _ => ?_)
    · intro y0 y1 y2
      unfold laws_FnExactMapDo.j2
      repeat' first
      | (with_reducible exact ih0 _ _ _ _ _ _ _ _ _ _ _)
      | (with_reducible exact ih1 _ _ _ _ _ _ _)
      | (with_reducible exact ih2 _ _ _)
      | (with_reducible exact impl_MapDo.mono _ _ _ _)
      | (with_reducible exact laws_eqBatch.mono _ _ _ _ _)
      | (with_reducible exact laws_eqPairS.mono _ _ _)
      | (with_reducible exact laws_heldPairS.mono _ _ _)
      | (with_reducible exact laws_markBatch.mono _ _ _ _)
      | (with_reducible exact laws_markPairS.mono _ _ _)
      | (with_reducible exact laws_szBatch.mono _ _ _ _)
      | (with_reducible exact laws_szPairS.mono _ _ _)
      | (with_reducible exact laws_toBatch.mono _ _ _)
      | (with_reducible exact laws_toPairS.mono _ _)
      | (with_reducible exact spec_MapDo.mono _ _ _ _)
      | (with_reducible exact LeO.refl _)
      | (with_reducible exact LeO.none _)
      | (with_reducible refine LeO.ite ?_ ?_)
      | (with_reducible refine LeO.bind ?_ (fun _ => ?_))
      | exact ih0 _ _ _ _ _ _ _ _ _ _ _
      | exact ih1 _ _ _ _ _ _ _
      | exact ih2 _ _ _
      | exact impl_MapDo.mono _ _ _ _
      | exact laws_eqBatch.mono _ _ _ _ _
      | exact laws_eqPairS.mono _ _ _
      | exact laws_heldPairS.mono _ _ _
      | exact laws_markBatch.mono _ _ _ _
      | exact laws_markPairS.mono _ _ _
      | exact laws_szBatch.mono _ _ _ _
      | exact laws_szPairS.mono _ _ _
      | exact laws_toBatch.mono _ _ _
      | exact laws_toPairS.mono _ _
      | exact spec_MapDo.mono _ _ _ _
      | exact LeO.none _
      | refine LeO.ite ?_ ?_
      | refine LeO.bind ?_ (fun _ => ?_)
theorem laws_FnExactMapDo.mono : ∀ a0 a1 a2 k, LeO (laws_FnExactMapDo.f k a0 a1 a2) (laws_FnExactMapDo.f (k + 1) a0 a1 a2) := by
  intro a0 a1 a2 k
  obtain ⟨ih0, ih1, ih2⟩ := laws_FnExactMapDo.mono_l k
  unfold laws_FnExactMapDo.f
  repeat' first
      | (with_reducible exact ih0 _ _ _ _ _ _ _ _ _ _ _)
      | (with_reducible exact ih1 _ _ _ _ _ _ _)
      | (with_reducible exact ih2 _ _ _)
      | (with_reducible exact impl_MapDo.mono _ _ _ _)
      | (with_reducible exact laws_eqBatch.mono _ _ _ _ _)
      | (with_reducible exact laws_eqPairS.mono _ _ _)
      | (with_reducible exact laws_heldPairS.mono _ _ _)
      | (with_reducible exact laws_markBatch.mono _ _ _ _)
      | (with_reducible exact laws_markPairS.mono _ _ _)
      | (with_reducible exact laws_szBatch.mono _ _ _ _)
      | (with_reducible exact laws_szPairS.mono _ _ _)
      | (with_reducible exact laws_toBatch.mono _ _ _)
      | (with_reducible exact laws_toPairS.mono _ _)
      | (with_reducible exact spec_MapDo.mono _ _ _ _)
      | (with_reducible exact LeO.refl _)
      | (with_reducible exact LeO.none _)
      | (with_reducible refine LeO.ite ?_ ?_)
      | (with_reducible refine LeO.bind ?_ (fun _ => ?_))
      | exact ih0 _ _ _ _ _ _ _ _ _ _ _
      | exact ih1 _ _ _ _ _ _ _
      | exact ih2 _ _ _
      | exact impl_MapDo.mono _ _ _ _
      | exact laws_eqBatch.mono _ _ _ _ _
      | exact laws_eqPairS.mono _ _ _
      | exact laws_heldPairS.mono _ _ _
      | exact laws_markBatch.mono _ _ _ _
      | exact laws_markPairS.mono _ _ _
      | exact laws_szBatch.mono _ _ _ _
      | exact laws_szPairS.mono _ _ _
      | exact laws_toBatch.mono _ _ _
      | exact laws_toPairS.mono _ _
      | exact spec_MapDo.mono _ _ _ _
      | exact LeO.none _
      | refine LeO.ite ?_ ?_
      | refine LeO.bind ?_ (fun _ => ?_)
def laws_FnExactMapDo.T8 : Bool × List (List Nat × List Nat) := (true, [([], []), ([0], [0]), ([], []), ([2, 1], [2]), ([1, 3, 3], [1, 3]), ([4], [4]), ([5], [5]), ([5], [5]), ([6, 4, 0, 1, 2, 3, 4, 5, 6], [6]), ([7, 8, 0, 1, 2, 3, 4, 5, 6, 7, 8], [7])])
def laws_FnExactMapDo.B8 : List Nat := [0, 1, 0, 7, 15, 31, 63, 63, 127, 511]
theorem laws_FnExactMapDo.tab8 : rtab .any (opsOf Try.f8 8) = laws_FnExactMapDo.T8 := by kernel_rfl
theorem laws_FnExactMapDo.bits8 : waitsOk laws_FnExactMapDo.T8.2 laws_FnExactMapDo.B8 = true := by kernel_rfl
def laws_FnExactMapDo.T31 : Bool × List (List Nat × List Nat) := (true, [([], []), ([0], [0]), ([], []), ([2, 1], [2]), ([1, 3, 3], [1, 3]), ([4], [4]), ([5], [5]), ([5], [5]), ([6, 4, 0, 1, 2, 3, 4, 5, 6], [6]), ([7, 8, 0, 1, 2, 3, 4, 5, 6, 7, 8], [7])])
def laws_FnExactMapDo.B31 : List Nat := [0, 1, 0, 7, 15, 31, 63, 63, 127, 511]
theorem laws_FnExactMapDo.tab31 : rtab .any (opsOf Try.f8 31) = laws_FnExactMapDo.T31 := by kernel_rfl
theorem laws_FnExactMapDo.bits31 : waitsOk laws_FnExactMapDo.T31.2 laws_FnExactMapDo.B31 = true := by kernel_rfl
set_option maxHeartbeats 8000000 in
set_option maxRecDepth 100000 in
theorem laws_FnExactMapDo.calls (k : Nat) (A0 : Option Addr) (c0 : Nat) (l0 : List (S129)) (a1_0 : Int) (A1_1 : Option Addr) (c1_1 : Nat) (l1_1 : List (S158)) (r : Bool) (w : World) (hr0 : Kd.C k129 w A0 l0.length l0) (hc0 : l0.length ≤ c0) (hr1_1 : Kd.C k158 w A1_1 l1_1.length l1_1) (hc1_1 : l1_1.length ≤ c1_1) (h : laws_FnExactMapDo.f k l0 a1_0 l1_1 = some r) :
    Calls Try.prog 8 #[.slice A0 l0.length c0, .agg #[.int .i64 a1_0, .slice A1_1 l1_1.length c1_1]] w fun e w' => e = .returned (.bool r) ∧ Below w.heap.size w w' := by
  have hu81 := Try.underlying81
  have hu52 := Try.underlying52
  have HR0 := Aside0.mk hr0
  have HC0 := Aside0.mk hc0
  clear hr0 hc0
  have HR1_1 := Aside0.mk hr1_1
  have HC1_1 := Aside0.mk hc1_1
  clear hr1_1 hc1_1
  have HB := Aside0.mk (Below.refl w.heap.size w)
  have H : ((laws_szPairS.f k l0 1048576).bind fun t281 => (if t281 < 0 then (some true) else ((laws_szBatch.f k a1_0 l1_1 t281).bind fun t282 => (if t282 < 0 then (some true) else ((laws_toPairS.f k l0).bind fun t283 => ((laws_toBatch.f k a1_0 l1_1).bind fun bt286 => ((spec_MapDo.f k t283 bt286.1 bt286.2).bind fun bt290 => ((laws_toPairS.f k l0).bind fun t294 => ((laws_toBatch.f k a1_0 l1_1).bind fun bt297 => ((impl_MapDo.f k t294 bt297.1 bt297.2).bind fun bt302 => ((laws_eqPairS.f k bt302.1 bt290.1).bind fun t306 => (if t306 = true then (laws_FnExactMapDo.j0 k l0 bt290.1 bt290.2 t294 bt302.1 bt302.2 (bt302.2 != bt290.2) a1_0 l1_1 bt297.1 bt297.2) else (laws_FnExactMapDo.j0 k l0 bt290.1 bt290.2 t294 bt302.1 bt302.2 true a1_0 l1_1 bt297.1 bt297.2))))))))))))) = some r := h
  clear h
  replace H := Option.bind_eq_some_iff.mp H
  obtain ⟨t281, A30, H⟩ := H
  replace H : (if t281 < 0 then (some true) else ((laws_szBatch.f k a1_0 l1_1 t281).bind fun t282 => (if t282 < 0 then (some true) else ((laws_toPairS.f k l0).bind fun t283 => ((laws_toBatch.f k a1_0 l1_1).bind fun bt286 => ((spec_MapDo.f k t283 bt286.1 bt286.2).bind fun bt290 => ((laws_toPairS.f k l0).bind fun t294 => ((laws_toBatch.f k a1_0 l1_1).bind fun bt297 => ((impl_MapDo.f k t294 bt297.1 bt297.2).bind fun bt302 => ((laws_eqPairS.f k bt302.1 bt290.1).bind fun t306 => (if t306 = true then (laws_FnExactMapDo.j0 k l0 bt290.1 bt290.2 t294 bt302.1 bt302.2 (bt302.2 != bt290.2) a1_0 l1_1 bt297.1 bt297.2) else (laws_FnExactMapDo.j0 k l0 bt290.1 bt290.2 t294 bt302.1 bt302.2 true a1_0 l1_1 bt297.1 bt297.2)))))))))))) = some r := H
  have A3 := Aside0.mk A30
  clear A30
  by_cases c4 : t281 < 0
  · rw [if_pos c4] at H
    have c4b0 : decide (t281 < 0) = true := decide_eq_true c4
    clear c4
    obtain rfl := Option.some.inj H
    go_enter Try.func8, Try.ntmps8
    go_wp2_with (first | ((with_reducible refine gate_dst (N := 3) rfl ?_); refine boxE (N := 3) (cs := #[.int .i64 a1_0, .slice A1_1 l1_1.length c1_1]) (t := 81) (h := ?_); intro gb280 hg w5 hbox hb; have BK280 := Aside0.mk (hbox); have GW280 := Aside0.mk ((t3_ : w.heap.size ≤ gb280)); have GE280 := Aside0.mk ((t3_ : w.heap.size ≤ gb280)); replace HB := Aside0.mk (below_step t0_ hb); clear hb hbox hg) | ((with_reducible refine gate_callee (f := 41) rfl ?_); refine goesL_ (some 19) rfl rfl Try.func41 (by kernel_rfl) rfl #[.slice A0 l0.length c0, .int .i64 1048576] rfl t7_ ?_; (with_reducible refine (laws_szPairS.calls k _ _ l0 1048576 t281 _ ?side1 ?side2 A3.out).mono ?_); (case side1 => exact cB HR0 HB); (case side2 => exact HC0.out); rintro e w6 ⟨rfl, hb⟩; refine ⟨_, rfl, ?_⟩; replace BK280 := bkN BK280 hb; replace HB := Aside0.mk (below_step t11_ hb); (try clear hb); (try clear hb2); (try clear hk); (try clear hi)))
    go_ret
    exact ⟨by first | rfl | (simp [errW_none, errW_some] <;> rfl) | (simp [*, errW_none, errW_some] <;> rfl), t11_⟩
  · rw [if_neg c4] at H
    have c4b0 : decide (t281 < 0) = false := decide_eq_false c4
    clear c4
    replace H := Option.bind_eq_some_iff.mp H
    obtain ⟨t282, A70, H⟩ := H
    replace H : (if t282 < 0 then (some true) else ((laws_toPairS.f k l0).bind fun t283 => ((laws_toBatch.f k a1_0 l1_1).bind fun bt286 => ((spec_MapDo.f k t283 bt286.1 bt286.2).bind fun bt290 => ((laws_toPairS.f k l0).bind fun t294 => ((laws_toBatch.f k a1_0 l1_1).bind fun bt297 => ((impl_MapDo.f k t294 bt297.1 bt297.2).bind fun bt302 => ((laws_eqPairS.f k bt302.1 bt290.1).bind fun t306 => (if t306 = true then (laws_FnExactMapDo.j0 k l0 bt290.1 bt290.2 t294 bt302.1 bt302.2 (bt302.2 != bt290.2) a1_0 l1_1 bt297.1 bt297.2) else (laws_FnExactMapDo.j0 k l0 bt290.1 bt290.2 t294 bt302.1 bt302.2 true a1_0 l1_1 bt297.1 bt297.2)))))))))) = some r := H
    have A7 := Aside0.mk A70
    clear A70
    by_cases c8 : t282 < 0
    · rw [if_pos c8] at H
      have c8b0 : decide (t282 < 0) = true := decide_eq_true c8
      clear c8
      obtain rfl := Option.some.inj H
      go_enter Try.func8, Try.ntmps8
      go_wp2_with (first | ((with_reducible refine gate_dst (N := 3) rfl ?_); refine boxE (N := 3) (cs := #[.int .i64 a1_0, .slice A1_1 l1_1.length c1_1]) (t := 81) (h := ?_); intro gb280 hg w9 hbox hb; have BK280 := Aside0.mk (hbox); have GW280 := Aside0.mk ((t3_ : w.heap.size ≤ gb280)); have GE280 := Aside0.mk ((t3_ : w.heap.size ≤ gb280)); replace HB := Aside0.mk (below_step t0_ hb); clear hb hbox hg) | ((with_reducible refine gate_callee (f := 41) rfl ?_); refine goesL_ (some 19) rfl rfl Try.func41 (by kernel_rfl) rfl #[.slice A0 l0.length c0, .int .i64 1048576] rfl t7_ ?_; (with_reducible refine (laws_szPairS.calls k _ _ l0 1048576 t281 _ ?side1 ?side2 A3.out).mono ?_); (case side1 => exact cB HR0 HB); (case side2 => exact HC0.out); rintro e w10 ⟨rfl, hb⟩; refine ⟨_, rfl, ?_⟩; replace BK280 := bkN BK280 hb; replace HB := Aside0.mk (below_step t11_ hb); (try clear hb); (try clear hb2); (try clear hk); (try clear hi); have hcz11_0 := bc0 BK280; have hcz11_1 := bc1 BK280; have hfz11_0 := bf BK280 0; have hfz11_1 := bf BK280 1) | ((with_reducible refine gate_callee (f := 42) rfl ?_); refine goesL_ (some 24) rfl rfl Try.func42 (by kernel_rfl) rfl #[.agg #[.int .i64 a1_0, .slice A1_1 l1_1.length c1_1], .int .i64 t281] rfl t7_ ?_; (with_reducible refine (laws_szBatch.calls k a1_0 _ _ l1_1 t281 t282 _ ?side1 ?side2 A7.out).mono ?_); (case side1 => exact cB HR1_1 HB); (case side2 => exact HC1_1.out); rintro e w12 ⟨rfl, hb⟩; refine ⟨_, rfl, ?_⟩; replace BK280 := bkN BK280 hb; replace HB := Aside0.mk (below_step t11_ hb); (try clear hb); (try clear hb2); (try clear hk); (try clear hi)))
      go_ret
      exact ⟨by first | rfl | (simp [errW_none, errW_some] <;> rfl) | (simp [*, errW_none, errW_some] <;> rfl), t11_⟩
    · rw [if_neg c8] at H
      have c8b0 : decide (t282 < 0) = false := decide_eq_false c8
      clear c8
      replace H := Option.bind_eq_some_iff.mp H
      obtain ⟨t283, A130, H⟩ := H
      replace H : ((laws_toBatch.f k a1_0 l1_1).bind fun bt286 => ((spec_MapDo.f k t283 bt286.1 bt286.2).bind fun bt290 => ((laws_toPairS.f k l0).bind fun t294 => ((laws_toBatch.f k a1_0 l1_1).bind fun bt297 => ((impl_MapDo.f k t294 bt297.1 bt297.2).bind fun bt302 => ((laws_eqPairS.f k bt302.1 bt290.1).bind fun t306 => (if t306 = true then (laws_FnExactMapDo.j0 k l0 bt290.1 bt290.2 t294 bt302.1 bt302.2 (bt302.2 != bt290.2) a1_0 l1_1 bt297.1 bt297.2) else (laws_FnExactMapDo.j0 k l0 bt290.1 bt290.2 t294 bt302.1 bt302.2 true a1_0 l1_1 bt297.1 bt297.2)))))))) = some r := H
      have A13 := Aside0.mk A130
      clear A130
      replace H := Option.bind_eq_some_iff.mp H
      obtain ⟨⟨t286, t287⟩, A140, H⟩ := H
      replace H : ((spec_MapDo.f k t283 t286 t287).bind fun bt290 => ((laws_toPairS.f k l0).bind fun t294 => ((laws_toBatch.f k a1_0 l1_1).bind fun bt297 => ((impl_MapDo.f k t294 bt297.1 bt297.2).bind fun bt302 => ((laws_eqPairS.f k bt302.1 bt290.1).bind fun t306 => (if t306 = true then (laws_FnExactMapDo.j0 k l0 bt290.1 bt290.2 t294 bt302.1 bt302.2 (bt302.2 != bt290.2) a1_0 l1_1 bt297.1 bt297.2) else (laws_FnExactMapDo.j0 k l0 bt290.1 bt290.2 t294 bt302.1 bt302.2 true a1_0 l1_1 bt297.1 bt297.2))))))) = some r := H
      have A14 := Aside0.mk A140
      clear A140
      replace H := Option.bind_eq_some_iff.mp H
      obtain ⟨⟨t290, t293⟩, A150, H⟩ := H
      replace H : ((laws_toPairS.f k l0).bind fun t294 => ((laws_toBatch.f k a1_0 l1_1).bind fun bt297 => ((impl_MapDo.f k t294 bt297.1 bt297.2).bind fun bt302 => ((laws_eqPairS.f k bt302.1 t290).bind fun t306 => (if t306 = true then (laws_FnExactMapDo.j0 k l0 t290 t293 t294 bt302.1 bt302.2 (bt302.2 != t293) a1_0 l1_1 bt297.1 bt297.2) else (laws_FnExactMapDo.j0 k l0 t290 t293 t294 bt302.1 bt302.2 true a1_0 l1_1 bt297.1 bt297.2)))))) = some r := H
      have A15 := Aside0.mk A150
      clear A150
      replace H := Option.bind_eq_some_iff.mp H
      obtain ⟨t294, A160, H⟩ := H
      replace H : ((laws_toBatch.f k a1_0 l1_1).bind fun bt297 => ((impl_MapDo.f k t294 bt297.1 bt297.2).bind fun bt302 => ((laws_eqPairS.f k bt302.1 t290).bind fun t306 => (if t306 = true then (laws_FnExactMapDo.j0 k l0 t290 t293 t294 bt302.1 bt302.2 (bt302.2 != t293) a1_0 l1_1 bt297.1 bt297.2) else (laws_FnExactMapDo.j0 k l0 t290 t293 t294 bt302.1 bt302.2 true a1_0 l1_1 bt297.1 bt297.2))))) = some r := H
      have A16 := Aside0.mk A160
      clear A160
      replace H := Option.bind_eq_some_iff.mp H
      obtain ⟨⟨t297, t298⟩, A170, H⟩ := H
      replace H : ((impl_MapDo.f k t294 t297 t298).bind fun bt302 => ((laws_eqPairS.f k bt302.1 t290).bind fun t306 => (if t306 = true then (laws_FnExactMapDo.j0 k l0 t290 t293 t294 bt302.1 bt302.2 (bt302.2 != t293) a1_0 l1_1 t297 t298) else (laws_FnExactMapDo.j0 k l0 t290 t293 t294 bt302.1 bt302.2 true a1_0 l1_1 t297 t298)))) = some r := H
      have A17 := Aside0.mk A170
      clear A170
      replace H := Option.bind_eq_some_iff.mp H
      obtain ⟨⟨t302, t305⟩, A180, H⟩ := H
      replace H : ((laws_eqPairS.f k t302 t290).bind fun t306 => (if t306 = true then (laws_FnExactMapDo.j0 k l0 t290 t293 t294 t302 t305 (t305 != t293) a1_0 l1_1 t297 t298) else (laws_FnExactMapDo.j0 k l0 t290 t293 t294 t302 t305 true a1_0 l1_1 t297 t298))) = some r := H
      have A18 := Aside0.mk A180
      clear A180
      have HC19 := Aside0.mk H
      clear H
      go_enter Try.func8, Try.ntmps8
      try go_wp2_with (first | ((with_reducible refine gate_dst (N := 3) rfl ?_); refine boxE (N := 3) (cs := #[.int .i64 a1_0, .slice A1_1 l1_1.length c1_1]) (t := 81) (h := ?_); intro gb280 hg w20 hbox hb; have BK280 := Aside0.mk (hbox); have GW280 := Aside0.mk ((t3_ : w.heap.size ≤ gb280)); have GE280 := Aside0.mk ((t3_ : w.heap.size ≤ gb280)); replace HB := Aside0.mk (below_step t0_ hb); clear hb hbox hg) | ((with_reducible refine gate_callee (f := 41) rfl ?_); refine goesL_ (some 19) rfl rfl Try.func41 (by kernel_rfl) rfl #[.slice A0 l0.length c0, .int .i64 1048576] rfl t7_ ?_; (with_reducible refine (laws_szPairS.calls k _ _ l0 1048576 t281 _ ?side1 ?side2 A3.out).mono ?_); (case side1 => exact cB HR0 HB); (case side2 => exact HC0.out); rintro e w21 ⟨rfl, hb⟩; refine ⟨_, rfl, ?_⟩; replace BK280 := bkN BK280 hb; replace HB := Aside0.mk (below_step t11_ hb); (try clear hb); (try clear hb2); (try clear hk); (try clear hi); have hcz22_0 := bc0 BK280; have hcz22_1 := bc1 BK280; have hfz22_0 := bf BK280 0; have hfz22_1 := bf BK280 1) | ((with_reducible refine gate_callee (f := 42) rfl ?_); refine goesL_ (some 24) rfl rfl Try.func42 (by kernel_rfl) rfl #[.agg #[.int .i64 a1_0, .slice A1_1 l1_1.length c1_1], .int .i64 t281] rfl t7_ ?_; (with_reducible refine (laws_szBatch.calls k a1_0 _ _ l1_1 t281 t282 _ ?side1 ?side2 A7.out).mono ?_); (case side1 => exact cB HR1_1 HB); (case side2 => exact HC1_1.out); rintro e w23 ⟨rfl, hb⟩; refine ⟨_, rfl, ?_⟩; replace BK280 := bkN BK280 hb; replace HB := Aside0.mk (below_step t11_ hb); (try clear hb); (try clear hb2); (try clear hk); (try clear hi)))
      replace BK280 := Aside0.mk (blk_drew BK280.out)
      replace HB := Aside0.mk (below_drew1 HB.out)
      refine start_ (n := 10) (S := fun w' => w'.cell? ⟨gb280, 0, none⟩ = some (.int .i64 a1_0) ∧ w'.cell? ⟨gb280, 1, none⟩ = some (.slice A1_1 l1_1.length c1_1)) (ds := []) #[false, false, false, false, false, false, false, false, false, false] (by kernel_rfl) rfl rfl ⟨bc0 BK280, bc1 BK280⟩ (fun hHeld => ?_); refine with_tabW laws_FnExactMapDo.tab8 laws_FnExactMapDo.bits8 (fun HT_ HW_ => ?_)
      generalize w23.drew = w24 at BK280 HB hHeld ⊢
      refine pure_ (i := 0) (N := some 28) (v := ?_) (a' := ?_) #[true, false, false, false, false, false, false, false, false, false] rfl rfl (any_of HT_.out (by kernel_rfl)) (fun _ _ _ h => h) (Or.inl ⟨by rfl, ?_⟩) ?_ ?_
      rotate_left
      · intro w'
        go_simp
        with_reducible rfl
      rotate_left
      · simp only [Act.put, List.setIfInBounds_toArray, List.set_cons_zero, List.set_cons_succ, i64_w, i32_w]
        rfl
      refine take_ (i := 2) (N := some 30) (v := ?_) (a' := ?_) #[true, false, true, false, false, false, false, false, false, false] rfl rfl (take_ofW HT_.out HW_.out (by kernel_rfl)) (fun _ _ _ h => h) (Or.inl ⟨by rfl, ?_⟩) hHeld ?_ ?_
      rotate_left
      · rintro w' ⟨s0, s1⟩
        go_simp
        with_reducible rfl
      rotate_left
      · simp only [Act.put, List.setIfInBounds_toArray, List.set_cons_zero, List.set_cons_succ, i64_w, i32_w]
        rfl
      refine one_ (i := 1) (N := some 29) #[true, true, true, false, false, false, false, false, false, false] rfl rfl (one_of HT_.out (by kernel_rfl)) (by decide) (fun K hK => ?_)
      refine goes_ Try.func44 (by kernel_rfl) rfl #[.slice A0 l0.length c0] (by rfl) rfl rfl t7_ ?_
      with_reducible refine (laws_toPairS.calls k _ _ l0 t283 _ ?side1 ?side2 A13.out).mono ?_
      (case side1 => exact cB HR0 HB)
      (case side2 => exact HC0.out)
      rintro e w25 ⟨v284, rfl, ho0, hb⟩
      refine ⟨_, rfl, ?_⟩
      have HO285 := Aside0.mk (Kd.R_lower ho0 (below_size t11_))
      replace BK280 := bkN BK280 hb
      replace HB := Aside0.mk (below_step t11_ hb)
      (try clear hb)
      (try clear hb2)
      (try clear hk)
      (try clear hi)
      (try clear ho0)
      refine hK.out _ _ ⟨bc0 BK280, bc1 BK280⟩ (fun hHeld => ?_)
      clear hK K
      refine norm_ (a' := ?_) ?_ ?_
      rotate_left
      · show Act.put _ (some 29) _ = _
        simp only [Act.put, List.setIfInBounds_toArray, List.set_cons_zero, List.set_cons_succ, i64_w, i32_w]
        rfl
      refine one_ (i := 3) (N := some 31) #[true, true, true, true, false, false, false, false, false, false] rfl rfl (one_of HT_.out (by kernel_rfl)) (by decide) (fun K hK => ?_)
      refine goes_ Try.func45 (by kernel_rfl) rfl #[.agg #[.int .i64 a1_0, .slice A1_1 l1_1.length c1_1]] (by rfl) rfl rfl t7_ ?_
      with_reducible refine (laws_toBatch.calls k a1_0 _ _ l1_1 t286 t287 _ ?side1 ?side2 A14.out).mono ?_
      (case side1 => exact cB HR1_1 HB)
      (case side2 => exact HC1_1.out)
      rintro e w26 ⟨v288, rfl, ho0, hb⟩
      refine ⟨_, rfl, ?_⟩
      replace HO285 := Aside0.mk (Kd.R_below t20_ hb)
      have HO289 := Aside0.mk (Kd.R_lower ho0 (below_size t11_))
      replace BK280 := bkN BK280 hb
      replace HB := Aside0.mk (below_step t11_ hb)
      (try clear hb)
      (try clear hb2)
      (try clear hk)
      (try clear hi)
      (try clear ho0)
      obtain ⟨Ao27, co27, eo27⟩ := Kd.R_slice HO285.out
      (first | subst eo27 | (injection eo27 with f1_ f2_ f3_; have f4_ := f1_.symm; have f5_ := f3_.symm; clear f1_ f2_ f3_; subst f4_; subst f5_))
      obtain ⟨Ao28, co28, eo28⟩ := Kd.R_slice HO289.out
      (first | subst eo28 | (injection eo28 with f1_ f2_ f3_; have f4_ := f1_.symm; have f5_ := f3_.symm; clear f1_ f2_ f3_; subst f4_; subst f5_))
      refine hK.out _ _ ⟨bc0 BK280, bc1 BK280⟩ (fun hHeld => ?_)
      clear hK K
      refine norm_ (a' := ?_) ?_ ?_
      rotate_left
      · show Act.put _ (some 31) _ = _
        simp only [Act.put, List.setIfInBounds_toArray, List.set_cons_zero, List.set_cons_succ, i64_w, i32_w]
        rfl
      refine one_ (i := 4) (N := some 32) #[true, true, true, true, true, false, false, false, false, false] rfl rfl (one_of HT_.out (by kernel_rfl)) (by decide) (fun K hK => ?_)
      refine goes_ Try.func43 (by kernel_rfl) rfl #[.slice Ao27 t283.length co27, .agg #[.int .i64 t286, .slice Ao28 t287.length co28]] (by rfl) rfl rfl t7_ ?_
      with_reducible refine (spec_MapDo.calls k _ _ t283 t286 _ _ t287 t290 t293 _ ?side1 ?side2 ?side3 ?side4 A15.out).mono ?_
      (case side1 => repeat (first | exact (Kd.R_reads' HO285.out).2.2 | (with_reducible refine Kd.C_alloc ?_ _) | (with_reducible refine Kd.C_drewN ?_ _) | (with_reducible refine Kd.C_drew ?_)))
      (case side2 => exact (Kd.R_reads' HO285.out).2.1)
      (case side3 => repeat (first | exact (Kd.R_reads' HO289.out).2.2 | (with_reducible refine Kd.C_alloc ?_ _) | (with_reducible refine Kd.C_drewN ?_ _) | (with_reducible refine Kd.C_drew ?_)))
      (case side4 => exact (Kd.R_reads' HO289.out).2.1)
      rintro e w29 ⟨v291, rfl, ho0, hb⟩
      refine ⟨_, rfl, ?_⟩
      replace HO289 := Aside0.mk (Kd.R_below t26_ hb)
      have HO292 := Aside0.mk (Kd.R_lower (Kd.R_new' ho0 (Kd.R_lt t20_)) (below_size t11_))
      replace HO285 := Aside0.mk (Kd.R_elder' t20_ (Kd.R_base ho0) hb)
      replace BK280 := bkN BK280 hb
      replace HB := Aside0.mk (below_step t11_ hb)
      (try clear hb)
      (try clear hb2)
      (try clear hk)
      (try clear hi)
      (try clear ho0)
      refine hK.out _ _ ⟨bc0 BK280, bc1 BK280⟩ (fun hHeld => ?_)
      clear hK K
      refine norm_ (a' := ?_) ?_ ?_
      rotate_left
      · show Act.put _ (some 32) _ = _
        simp only [Act.put, List.setIfInBounds_toArray, List.set_cons_zero, List.set_cons_succ, i64_w, i32_w]
        rfl
      refine pure_ (i := 5) (N := some 27) (v := ?_) (a' := ?_) #[true, true, true, true, true, true, false, false, false, false] rfl rfl (any_of HT_.out (by kernel_rfl)) (fun _ _ _ h => h) (Or.inl ⟨by rfl, ?_⟩) ?_ ?_
      rotate_left
      · intro w'
        go_simp
        with_reducible rfl
      rotate_left
      · simp only [Act.put, List.setIfInBounds_toArray, List.set_cons_zero, List.set_cons_succ, i64_w, i32_w]
        rfl
      refine pure_ (i := 6) (N := some 33) (v := ?_) (a' := ?_) #[true, true, true, true, true, true, true, false, false, false] rfl rfl (any_of HT_.out (by kernel_rfl)) (fun _ _ _ h => h) (Or.inl ⟨by rfl, ?_⟩) ?_ ?_
      rotate_left
      · intro w'
        go_simp
        with_reducible rfl
      rotate_left
      · simp only [Act.put, List.setIfInBounds_toArray, List.set_cons_zero, List.set_cons_succ, i64_w, i32_w]
        rfl
      refine pure_ (i := 7) (N := some 34) (v := ?_) (a' := ?_) #[true, true, true, true, true, true, true, true, false, false] rfl rfl (any_of HT_.out (by kernel_rfl)) (fun _ _ _ h => h) (Or.inl ⟨by rfl, ?_⟩) ?_ ?_
      rotate_left
      · intro w'
        go_simp
        with_reducible rfl
      rotate_left
      · simp only [Act.put, List.setIfInBounds_toArray, List.set_cons_zero, List.set_cons_succ, i64_w, i32_w]
        rfl
      refine pure_ (i := 8) (N := some 6) (v := ?_) (a' := ?_) #[true, true, true, true, true, true, true, true, true, false] rfl rfl (any_of HT_.out (by kernel_rfl)) (fun _ _ _ h => h) (Or.inl ⟨by rfl, ?_⟩) ?_ ?_
      rotate_left
      · intro w'
        go_simp
        with_reducible rfl
      rotate_left
      · simp only [Act.put, List.setIfInBounds_toArray, List.set_cons_zero, List.set_cons_succ, i64_w, i32_w]
        rfl
      refine pure_ (i := 9) (N := some 7) (v := ?_) (a' := ?_) #[true, true, true, true, true, true, true, true, true, true] rfl rfl (any_of HT_.out (by kernel_rfl)) (fun _ _ _ h => h) (Or.inl ⟨by rfl, ?_⟩) ?_ ?_
      rotate_left
      · intro w'
        go_simp
        with_reducible rfl
      rotate_left
      · simp only [Act.put, List.setIfInBounds_toArray, List.set_cons_zero, List.set_cons_succ, i64_w, i32_w]
        rfl
      refine done_ (done_of HT_.out (by kernel_rfl)) ?_
      go_upto_region 12 with (first | ((with_reducible refine gate_callee (f := 44) rfl ?_); refine goesL_ (some 36) rfl rfl Try.func44 (by kernel_rfl) rfl #[.slice A0 l0.length c0] rfl t7_ ?_; (with_reducible refine (laws_toPairS.calls k _ _ l0 t294 _ ?side1 ?side2 A16.out).mono ?_); (case side1 => exact cB HR0 HB); (case side2 => exact HC0.out); rintro e w30 ⟨v295, rfl, ho0, hb⟩; refine ⟨_, rfl, ?_⟩; replace HO289 := Aside0.mk (Kd.R_below t26_ hb); have HO296 := Aside0.mk (Kd.R_lower (Kd.R_new' (Kd.R_new' ho0 (Kd.R_lt t20_)) (Kd.R_lt t29_)) (below_size t11_)); replace HO285 := Aside0.mk (Kd.R_elder' t20_ (Kd.R_base ho0) hb); replace HO292 := Aside0.mk (Kd.R_elder' t29_ (Kd.R_base ho0) hb); replace BK280 := bkN BK280 hb; replace HB := Aside0.mk (below_step t11_ hb); (try clear hb); (try clear hb2); (try clear hk); (try clear hi); (try clear ho0); have hcz31_0 := bc0 BK280; have hcz31_1 := bc1 BK280; have hfz31_0 := bf BK280 0; have hfz31_1 := bf BK280 1) | ((with_reducible refine gate_callee (f := 45) rfl ?_); refine goesL_ (some 38) rfl rfl Try.func45 (by kernel_rfl) rfl #[.agg #[.int .i64 a1_0, .slice A1_1 l1_1.length c1_1]] rfl t7_ ?_; (with_reducible refine (laws_toBatch.calls k a1_0 _ _ l1_1 t297 t298 _ ?side1 ?side2 A17.out).mono ?_); (case side1 => exact cB HR1_1 HB); (case side2 => exact HC1_1.out); rintro e w32 ⟨v299, rfl, ho0, hb⟩; refine ⟨_, rfl, ?_⟩; replace HO285 := Aside0.mk (Kd.R_below t20_ hb); replace HO292 := Aside0.mk (Kd.R_below t29_ hb); replace HO296 := Aside0.mk (Kd.R_below t33_ hb); have HO300 := Aside0.mk (Kd.R_lower (Kd.R_new' ho0 (Kd.R_lt t26_)) (below_size t11_)); replace HO289 := Aside0.mk (Kd.R_elder' t26_ (Kd.R_base ho0) hb); replace BK280 := bkN BK280 hb; replace HB := Aside0.mk (below_step t11_ hb); (try clear hb); (try clear hb2); (try clear hk); (try clear hi); (try clear ho0)) | ((with_reducible refine gate_dst (N := 9) rfl ?_); refine boxE (N := 9) (cs := #[.int .i64 0, .slice none 0 0]) (t := 52) (h := ?_); intro gb301 hg w33 hbox hb; replace HO285 := Aside0.mk (Kd.R_below t20_ hb); replace HO289 := Aside0.mk (Kd.R_below t26_ hb); replace HO292 := Aside0.mk (Kd.R_below t29_ hb); replace HO296 := Aside0.mk (Kd.R_below t33_ hb); replace HO300 := Aside0.mk (Kd.R_below (by (with_reducible repeat (first | apply Kd.R_alloc | apply Kd.R_drewN | apply Kd.R_drew)); exact HO300.out) hb); have BK301 := Aside0.mk (hbox); have GW301 := Aside0.mk ((by rw [hg]; exact (below_size t11_) : w.heap.size ≤ gb301)); have GE301 := Aside0.mk ((by rw [hg]; exact (below_size t11_) : w.heap.size ≤ gb301)); replace HB := Aside0.mk (below_step t11_ hb); have NB280_301 := nbL BK280 hg; have NB301_280 := nbG BK280 hg; replace BK280 := bkN BK280 hb; clear hb hbox hg; have hnb34 := NB301_280.out; have hnc34 := NB280_301.out; have hcz35_0 := bc0 BK301; have hcz35_1 := bc1 BK301; have hfz35_0 := bf BK301 0; have hfz35_1 := bf BK301 1; obtain ⟨Ao36, co36, eo36⟩ := Kd.R_slice HO300.out; subst eo36; obtain ⟨Ao37, co37, eo37⟩ := Kd.R_slice HO296.out; subst eo37) | ((with_reducible refine gate_callee (f := 25) rfl ?_); refine goesL_ (some 42) rfl rfl Try.func25 (by kernel_rfl) rfl #[.slice Ao37 t294.length co37, .agg #[.int .i64 t297, .slice Ao36 t298.length co36]] rfl t7_ ?_; (with_reducible refine (impl_MapDo.calls k _ _ t294 t297 _ _ t298 t302 t305 _ ?side1 ?side2 ?side3 ?side4 A18.out).mono ?_); (case side1 => refine (Kd.R_reads' (e := 59) (base := w.heap.size) (ok := fun k_ => ((True ∧ some k_ ≠ (.slice Ao27 t283.length co27 : Value).ownBlock) ∧ some k_ ≠ (v291 : Value).ownBlock)) (n := t294.length) (c := co37) ?_).2.2; exact (by (with_reducible repeat (first | apply Kd.R_alloc | apply Kd.R_drewN | apply Kd.R_drew)); exact (Kd.R_mono (Kd.R_far (p := ⟨gb301, 1, none⟩) (Kd.R_far (p := ⟨gb301, 0, none⟩) (Kd.R_types HO296.out BK301.out (by decide)) (fun _ hk => hk.2) (.int .i64 t297)) (fun _ hk => hk.2) (.slice Ao36 t298.length co36)) (fun _ h_ => h_.1)))); (case side2 => exact (Kd.R_reads' HO296.out).2.1); (case side3 => refine (Kd.R_reads' (e := 109) (base := w.heap.size) (ok := fun k_ => (True ∧ some k_ ≠ (.slice Ao28 t287.length co28 : Value).ownBlock)) (n := t298.length) (c := co36) ?_).2.2; exact (by (with_reducible repeat (first | apply Kd.R_alloc | apply Kd.R_drewN | apply Kd.R_drew)); exact (Kd.R_mono (Kd.R_far (p := ⟨gb301, 1, none⟩) (Kd.R_far (p := ⟨gb301, 0, none⟩) (Kd.R_types HO300.out BK301.out (by decide)) (fun _ hk => hk.2) (.int .i64 t297)) (fun _ hk => hk.2) (.slice Ao36 t298.length co36)) (fun _ h_ => h_.1)))); (case side4 => exact (Kd.R_reads' HO300.out).2.1); rintro e w38 ⟨v303, rfl, ho0, hb⟩; refine ⟨_, rfl, ?_⟩; replace HO289 := Aside0.mk (Kd.R_below (by (with_reducible repeat (first | apply Kd.R_alloc | apply Kd.R_drewN | apply Kd.R_drew)); exact (Kd.R_mono (Kd.R_far (p := ⟨gb301, 1, none⟩) (Kd.R_far (p := ⟨gb301, 0, none⟩) (Kd.R_types HO289.out BK301.out (by decide)) (fun _ hk => hk.2) (.int .i64 t297)) (fun _ hk => hk.2) (.slice Ao36 t298.length co36)) (fun _ h_ => h_.1))) hb); replace HO300 := Aside0.mk (Kd.R_below (by (with_reducible repeat (first | apply Kd.R_alloc | apply Kd.R_drewN | apply Kd.R_drew)); exact (Kd.R_mono (Kd.R_far (p := ⟨gb301, 1, none⟩) (Kd.R_far (p := ⟨gb301, 0, none⟩) (Kd.R_types HO300.out BK301.out (by decide)) (fun _ hk => hk.2) (.int .i64 t297)) (fun _ hk => hk.2) (.slice Ao36 t298.length co36)) (fun _ h_ => h_.1))) hb); have HO304 := Aside0.mk (Kd.R_lower (Kd.R_new' (Kd.R_new' (Kd.R_new' ho0 (Kd.R_lt (by (with_reducible repeat (first | apply Kd.R_alloc | apply Kd.R_drewN | apply Kd.R_drew)); exact (Kd.R_mono (Kd.R_far (p := ⟨gb301, 1, none⟩) (Kd.R_far (p := ⟨gb301, 0, none⟩) (Kd.R_types HO285.out BK301.out (by decide)) (fun _ hk => hk.2) (.int .i64 t297)) (fun _ hk => hk.2) (.slice Ao36 t298.length co36)) (fun _ h_ => h_.1))))) (Kd.R_lt (by (with_reducible repeat (first | apply Kd.R_alloc | apply Kd.R_drewN | apply Kd.R_drew)); exact (Kd.R_mono (Kd.R_far (p := ⟨gb301, 1, none⟩) (Kd.R_far (p := ⟨gb301, 0, none⟩) (Kd.R_types HO292.out BK301.out (by decide)) (fun _ hk => hk.2) (.int .i64 t297)) (fun _ hk => hk.2) (.slice Ao36 t298.length co36)) (fun _ h_ => h_.1))))) (Kd.R_lt (by (with_reducible repeat (first | apply Kd.R_alloc | apply Kd.R_drewN | apply Kd.R_drew)); exact (Kd.R_mono (Kd.R_far (p := ⟨gb301, 1, none⟩) (Kd.R_far (p := ⟨gb301, 0, none⟩) (Kd.R_types HO296.out BK301.out (by decide)) (fun _ hk => hk.2) (.int .i64 t297)) (fun _ hk => hk.2) (.slice Ao36 t298.length co36)) (fun _ h_ => h_.1))))) (below_size t8_)); replace HO285 := Aside0.mk (Kd.R_elder' (by (with_reducible repeat (first | apply Kd.R_alloc | apply Kd.R_drewN | apply Kd.R_drew)); exact (Kd.R_mono (Kd.R_far (p := ⟨gb301, 1, none⟩) (Kd.R_far (p := ⟨gb301, 0, none⟩) (Kd.R_types HO285.out BK301.out (by decide)) (fun _ hk => hk.2) (.int .i64 t297)) (fun _ hk => hk.2) (.slice Ao36 t298.length co36)) (fun _ h_ => h_.1))) (Kd.R_base ho0) hb); replace HO292 := Aside0.mk (Kd.R_elder' (by (with_reducible repeat (first | apply Kd.R_alloc | apply Kd.R_drewN | apply Kd.R_drew)); exact (Kd.R_mono (Kd.R_far (p := ⟨gb301, 1, none⟩) (Kd.R_far (p := ⟨gb301, 0, none⟩) (Kd.R_types HO292.out BK301.out (by decide)) (fun _ hk => hk.2) (.int .i64 t297)) (fun _ hk => hk.2) (.slice Ao36 t298.length co36)) (fun _ h_ => h_.1))) (Kd.R_base ho0) hb); replace HO296 := Aside0.mk (Kd.R_elder' (by (with_reducible repeat (first | apply Kd.R_alloc | apply Kd.R_drewN | apply Kd.R_drew)); exact (Kd.R_mono (Kd.R_far (p := ⟨gb301, 1, none⟩) (Kd.R_far (p := ⟨gb301, 0, none⟩) (Kd.R_types HO296.out BK301.out (by decide)) (fun _ hk => hk.2) (.int .i64 t297)) (fun _ hk => hk.2) (.slice Ao36 t298.length co36)) (fun _ h_ => h_.1))) (Kd.R_base ho0) hb); replace BK280 := Aside0.mk (blk_below (g := gb280) (o := .cells #[.int .i64 a1_0, .slice A1_1 l1_1.length c1_1] 81 (0, 0)) (by (with_reducible repeat (first | refine blk_drewN ?_ _ | refine blk_drew ?_ | refine blk_alloc ?_ _)); refine blk_far ?_ NB280_301.out _; (with_reducible repeat (first | refine blk_drewN ?_ _ | refine blk_drew ?_ | refine blk_alloc ?_ _)); refine blk_far ?_ NB280_301.out _; (with_reducible repeat (first | refine blk_drewN ?_ _ | refine blk_drew ?_ | refine blk_alloc ?_ _)); exact BK280.out) hb); replace BK301 := Aside0.mk (blk_below (g := gb301) (o := .cells #[.int .i64 t297, .slice Ao36 t298.length co36] 52 (0, 0)) (by (with_reducible repeat (first | refine blk_drewN ?_ _ | refine blk_drew ?_ | refine blk_alloc ?_ _)); refine blk_put (cs := #[.int .i64 t297, .slice none 0 0]) ?_ 1 _ rfl; (with_reducible repeat (first | refine blk_drewN ?_ _ | refine blk_drew ?_ | refine blk_alloc ?_ _)); refine blk_put (cs := #[.int .i64 0, .slice none 0 0]) ?_ 0 _ rfl; (with_reducible repeat (first | refine blk_drewN ?_ _ | refine blk_drew ?_ | refine blk_alloc ?_ _)); exact BK301.out) hb); replace HB := Aside0.mk (below_step t8_ hb); (try clear hb); (try clear hb2); (try clear hk); (try clear hi); (try clear ho0)))
      (try simp only [Act.put, List.setIfInBounds_toArray, List.set_cons_zero, List.set_cons_succ])
      go_cut [53] (fun v53 wc => ∃ (kq : Nat) (x53_18 : Bool), v53 = .bool x53_18 ∧ Aside0 (laws_FnExactMapDo.j0 kq l0 t290 t293 t294 t302 t305 x53_18 a1_0 l1_1 t297 t298 = some r) ∧ Aside0 (kq ≤ k) ∧ Aside0 (Kd.R k59 59 wc w.heap.size (fun k_ => some k_ ≠ ((.slice Ao37 t294.length co37) : Value).ownBlock ∧ some k_ ≠ (v303 : Value).ownBlock) v291 t290) ∧ Aside0 (Kd.R k59 59 wc w.heap.size (fun k_ => some k_ ≠ (v291 : Value).ownBlock ∧ some k_ ≠ (v303 : Value).ownBlock) (.slice Ao37 t294.length co37) t294) ∧ Aside0 (Kd.R k59 59 wc w.heap.size (fun k_ => some k_ ≠ (v291 : Value).ownBlock ∧ some k_ ≠ ((.slice Ao37 t294.length co37) : Value).ownBlock) v303 t302) ∧ Aside0 (Kd.R k109 109 wc w.heap.size (fun _ => True) (.slice Ao36 t298.length co36) t298) ∧ Aside0 (wc.heap[gb280]? = some (.cells #[.int .i64 a1_0, (.slice A1_1 l1_1.length c1_1)] 81 (0, 0))) ∧ Aside0 (wc.heap[gb301]? = some (.cells #[.int .i64 t297, (.slice Ao36 t298.length co36)] 52 (0, 0))) ∧ Aside0 (Below w.heap.size w wc))
      case first =>
        have H := HC19.out
        clear HC19
        replace H := Option.bind_eq_some_iff.mp H
        obtain ⟨t306, A390, H⟩ := H
        replace H : (if t306 = true then (laws_FnExactMapDo.j0 k l0 t290 t293 t294 t302 t305 (t305 != t293) a1_0 l1_1 t297 t298) else (laws_FnExactMapDo.j0 k l0 t290 t293 t294 t302 t305 true a1_0 l1_1 t297 t298)) = some r := H
        have A39 := Aside0.mk A390
        clear A390
        by_cases c40 : t306 = true
        · subst c40
          have H1 : (laws_FnExactMapDo.j0 k l0 t290 t293 t294 t302 t305 (t305 != t293) a1_0 l1_1 t297 t298) = some r := by rw [if_pos rfl] at H; exact H
          clear H
          have H := H1
          clear H1
          have H' := Aside0.mk H
          clear H
          obtain ⟨Ao41, co41, eo41⟩ := Kd.R_slice HO304.out
          subst eo41
          obtain ⟨Ao42, co42, eo42⟩ := Kd.R_slice HO292.out
          subst eo42
          go_wp2_with (first | ((with_reducible refine gate_callee (f := 46) rfl ?_); refine goesL_ (some 47) rfl rfl Try.func46 (by kernel_rfl) rfl #[.slice Ao41 t302.length co41, .slice Ao42 t290.length co42] rfl t7_ ?_; (with_reducible refine (laws_eqPairS.calls k _ _ t302 _ _ t290 true _ ?side1 ?side2 ?side3 ?side4 A39.out).mono ?_); (case side1 => repeat (first | exact (Kd.R_reads' HO304.out).2.2 | (with_reducible refine Kd.C_alloc ?_ _) | (with_reducible refine Kd.C_drewN ?_ _) | (with_reducible refine Kd.C_drew ?_))); (case side2 => exact (Kd.R_reads' HO304.out).2.1); (case side3 => repeat (first | exact (Kd.R_reads' HO292.out).2.2 | (with_reducible refine Kd.C_alloc ?_ _) | (with_reducible refine Kd.C_drewN ?_ _) | (with_reducible refine Kd.C_drew ?_))); (case side4 => exact (Kd.R_reads' HO292.out).2.1); rintro e w43 ⟨rfl, hb⟩; refine ⟨_, rfl, ?_⟩; replace HO285 := Aside0.mk (Kd.R_below t20_ hb); replace HO289 := Aside0.mk (Kd.R_below t26_ hb); replace HO292 := Aside0.mk (Kd.R_below t29_ hb); replace HO296 := Aside0.mk (Kd.R_below t33_ hb); replace HO300 := Aside0.mk (Kd.R_below (by (with_reducible repeat (first | apply Kd.R_alloc | apply Kd.R_drewN | apply Kd.R_drew)); exact HO300.out) hb); replace HO304 := Aside0.mk (Kd.R_below (by (with_reducible repeat (first | apply Kd.R_alloc | apply Kd.R_drewN | apply Kd.R_drew)); exact HO304.out) hb); replace BK280 := bkN BK280 hb; replace BK301 := bkN BK301 hb; replace HB := Aside0.mk (below_step t8_ hb); (try clear hb); (try clear hb2); (try clear hk); (try clear hi)))
          go_meet
          case rel => exact ⟨_, ((t305 != t293)), t10_, H', ⟨by first | omega | exact Nat.le_refl _⟩, ⟨by (with_reducible repeat (first | apply Kd.R_alloc | apply Kd.R_drewN | apply Kd.R_drew)); exact Kd.R_mono HO292.out (fun _ hk => ⟨hk.1.2, hk.2⟩)⟩, ⟨by (with_reducible repeat (first | apply Kd.R_alloc | apply Kd.R_drewN | apply Kd.R_drew)); exact Kd.R_mono HO296.out (fun _ hk => ⟨hk.1.2, hk.2⟩)⟩, ⟨by (with_reducible repeat (first | apply Kd.R_alloc | apply Kd.R_drewN | apply Kd.R_drew)); exact Kd.R_mono HO304.out (fun _ hk => ⟨hk.1.2, hk.2⟩)⟩, ⟨by (with_reducible repeat (first | apply Kd.R_alloc | apply Kd.R_drewN | apply Kd.R_drew)); exact Kd.R_mono HO300.out (fun _ hk => trivial)⟩, ⟨by (with_reducible repeat (first | refine blk_drewN ?_ _ | refine blk_drew ?_ | refine blk_alloc ?_ _)); exact BK280.out⟩, ⟨by (with_reducible repeat (first | refine blk_drewN ?_ _ | refine blk_drew ?_ | refine blk_alloc ?_ _)); exact BK301.out⟩, ⟨t8_⟩⟩
        · replace c40 := Bool.eq_false_iff.mpr c40
          subst c40
          have H1 : (laws_FnExactMapDo.j0 k l0 t290 t293 t294 t302 t305 true a1_0 l1_1 t297 t298) = some r := by rw [if_neg (show ¬ (false = true) by decide)] at H; exact H
          clear H
          have H := H1
          clear H1
          have H' := Aside0.mk H
          clear H
          obtain ⟨Ao44, co44, eo44⟩ := Kd.R_slice HO304.out
          subst eo44
          obtain ⟨Ao45, co45, eo45⟩ := Kd.R_slice HO292.out
          subst eo45
          go_wp2_with (first | ((with_reducible refine gate_callee (f := 46) rfl ?_); refine goesL_ (some 47) rfl rfl Try.func46 (by kernel_rfl) rfl #[.slice Ao44 t302.length co44, .slice Ao45 t290.length co45] rfl t7_ ?_; (with_reducible refine (laws_eqPairS.calls k _ _ t302 _ _ t290 false _ ?side1 ?side2 ?side3 ?side4 A39.out).mono ?_); (case side1 => repeat (first | exact (Kd.R_reads' HO304.out).2.2 | (with_reducible refine Kd.C_alloc ?_ _) | (with_reducible refine Kd.C_drewN ?_ _) | (with_reducible refine Kd.C_drew ?_))); (case side2 => exact (Kd.R_reads' HO304.out).2.1); (case side3 => repeat (first | exact (Kd.R_reads' HO292.out).2.2 | (with_reducible refine Kd.C_alloc ?_ _) | (with_reducible refine Kd.C_drewN ?_ _) | (with_reducible refine Kd.C_drew ?_))); (case side4 => exact (Kd.R_reads' HO292.out).2.1); rintro e w46 ⟨rfl, hb⟩; refine ⟨_, rfl, ?_⟩; replace HO285 := Aside0.mk (Kd.R_below t20_ hb); replace HO289 := Aside0.mk (Kd.R_below t26_ hb); replace HO292 := Aside0.mk (Kd.R_below t29_ hb); replace HO296 := Aside0.mk (Kd.R_below t33_ hb); replace HO300 := Aside0.mk (Kd.R_below (by (with_reducible repeat (first | apply Kd.R_alloc | apply Kd.R_drewN | apply Kd.R_drew)); exact HO300.out) hb); replace HO304 := Aside0.mk (Kd.R_below (by (with_reducible repeat (first | apply Kd.R_alloc | apply Kd.R_drewN | apply Kd.R_drew)); exact HO304.out) hb); replace BK280 := bkN BK280 hb; replace BK301 := bkN BK301 hb; replace HB := Aside0.mk (below_step t8_ hb); (try clear hb); (try clear hb2); (try clear hk); (try clear hi)))
          go_meet
          case rel => exact ⟨_, (true), t10_, H', ⟨by first | omega | exact Nat.le_refl _⟩, ⟨by (with_reducible repeat (first | apply Kd.R_alloc | apply Kd.R_drewN | apply Kd.R_drew)); exact Kd.R_mono HO292.out (fun _ hk => ⟨hk.1.2, hk.2⟩)⟩, ⟨by (with_reducible repeat (first | apply Kd.R_alloc | apply Kd.R_drewN | apply Kd.R_drew)); exact Kd.R_mono HO296.out (fun _ hk => ⟨hk.1.2, hk.2⟩)⟩, ⟨by (with_reducible repeat (first | apply Kd.R_alloc | apply Kd.R_drewN | apply Kd.R_drew)); exact Kd.R_mono HO304.out (fun _ hk => ⟨hk.1.2, hk.2⟩)⟩, ⟨by (with_reducible repeat (first | apply Kd.R_alloc | apply Kd.R_drewN | apply Kd.R_drew)); exact Kd.R_mono HO300.out (fun _ hk => trivial)⟩, ⟨by (with_reducible repeat (first | refine blk_drewN ?_ _ | refine blk_drew ?_ | refine blk_alloc ?_ _)); exact BK280.out⟩, ⟨by (with_reducible repeat (first | refine blk_drewN ?_ _ | refine blk_drew ?_ | refine blk_alloc ?_ _)); exact BK301.out⟩, ⟨t8_⟩⟩
      case rest =>
        clear HC19
        try clear c1
        try clear c2
        try clear p2
        try clear c3
        try clear c4
        try clear c4b0
        try clear c8
        try clear c8b0
        try clear c25
        try clear c34
        try clear c40
        try clear c41
        try clear c42
        try clear c43
        try clear c44
        try clear c45
        try clear c46
        try clear hcz11_0
        try clear hcz11_1
        try clear hcz22_0
        try clear hcz22_1
        try clear hcz31_0
        try clear hcz31_1
        try clear hcz35_0
        try clear hcz35_1
        try clear hfz11_0
        try clear hfz11_1
        try clear hfz22_0
        try clear hfz22_1
        try clear hfz31_0
        try clear hfz31_1
        try clear hfz35_0
        try clear hfz35_1
        obtain ⟨kq, x53_18, rfl, HA, HJ18, HO_6, HO_8, HO_10, HO_302001, BK280, BK301, HB⟩ := hcut
        cases kq with
        | zero => exact absurd HA.out (by simp [laws_FnExactMapDo.j0])
        | succ kj18 =>
          have H := HA.out
          clear HA
          simp only [laws_FnExactMapDo.j0] at H
          by_cases c47 : x53_18 = true
          · subst c47
            have H1 : (none) = some r := by rw [if_pos rfl] at H; exact H
            clear H
            have H := H1
            clear H1
            exact absurd H (by simp)
          · replace c47 := Bool.eq_false_iff.mpr c47
            subst c47
            have H1 : ((laws_toPairS.f kj18 l0).bind fun t307 => ((laws_eqPairS.f kj18 t294 t307).bind fun t310 => (if t310 = true then ((laws_toBatch.f kj18 a1_0 l1_1).bind fun bt311 => ((laws_eqBatch.f kj18 t297 t298 bt311.1 bt311.2).bind fun t315 => (if t315 = true then ((laws_markPairS.f kj18 t294 1).bind fun bt316 => ((laws_markBatch.f kj18 t297 t298 bt316.1).bind fun bt318 => (if bt318.1 < 0 then (laws_FnExactMapDo.j1 kj18 l0 t290 t293 t302 true a1_0 l1_1) else ((laws_eqPairS.f kj18 t302 t290).bind fun t320 => (if t320 = true then (laws_FnExactMapDo.j1 kj18 l0 t290 t293 t302 (t305 != t293) a1_0 l1_1) else (laws_FnExactMapDo.j1 kj18 l0 t290 t293 t302 true a1_0 l1_1)))))) else (none)))) else (none)))) = some r := by rw [if_neg (show ¬ (false = true) by decide)] at H; exact H
            clear H
            have H := H1
            clear H1
            replace H := Option.bind_eq_some_iff.mp H
            obtain ⟨t307, A480, H⟩ := H
            replace H : ((laws_eqPairS.f kj18 t294 t307).bind fun t310 => (if t310 = true then ((laws_toBatch.f kj18 a1_0 l1_1).bind fun bt311 => ((laws_eqBatch.f kj18 t297 t298 bt311.1 bt311.2).bind fun t315 => (if t315 = true then ((laws_markPairS.f kj18 t294 1).bind fun bt316 => ((laws_markBatch.f kj18 t297 t298 bt316.1).bind fun bt318 => (if bt318.1 < 0 then (laws_FnExactMapDo.j1 kj18 l0 t290 t293 t302 true a1_0 l1_1) else ((laws_eqPairS.f kj18 t302 t290).bind fun t320 => (if t320 = true then (laws_FnExactMapDo.j1 kj18 l0 t290 t293 t302 (t305 != t293) a1_0 l1_1) else (laws_FnExactMapDo.j1 kj18 l0 t290 t293 t302 true a1_0 l1_1)))))) else (none)))) else (none))) = some r := H
            have A48 := Aside0.mk A480
            clear A480
            replace H := Option.bind_eq_some_iff.mp H
            obtain ⟨t310, A490, H⟩ := H
            replace H : (if t310 = true then ((laws_toBatch.f kj18 a1_0 l1_1).bind fun bt311 => ((laws_eqBatch.f kj18 t297 t298 bt311.1 bt311.2).bind fun t315 => (if t315 = true then ((laws_markPairS.f kj18 t294 1).bind fun bt316 => ((laws_markBatch.f kj18 t297 t298 bt316.1).bind fun bt318 => (if bt318.1 < 0 then (laws_FnExactMapDo.j1 kj18 l0 t290 t293 t302 true a1_0 l1_1) else ((laws_eqPairS.f kj18 t302 t290).bind fun t320 => (if t320 = true then (laws_FnExactMapDo.j1 kj18 l0 t290 t293 t302 (t305 != t293) a1_0 l1_1) else (laws_FnExactMapDo.j1 kj18 l0 t290 t293 t302 true a1_0 l1_1)))))) else (none)))) else (none)) = some r := H
            have A49 := Aside0.mk A490
            clear A490
            by_cases c50 : t310 = true
            · subst c50
              have H1 : ((laws_toBatch.f kj18 a1_0 l1_1).bind fun bt311 => ((laws_eqBatch.f kj18 t297 t298 bt311.1 bt311.2).bind fun t315 => (if t315 = true then ((laws_markPairS.f kj18 t294 1).bind fun bt316 => ((laws_markBatch.f kj18 t297 t298 bt316.1).bind fun bt318 => (if bt318.1 < 0 then (laws_FnExactMapDo.j1 kj18 l0 t290 t293 t302 true a1_0 l1_1) else ((laws_eqPairS.f kj18 t302 t290).bind fun t320 => (if t320 = true then (laws_FnExactMapDo.j1 kj18 l0 t290 t293 t302 (t305 != t293) a1_0 l1_1) else (laws_FnExactMapDo.j1 kj18 l0 t290 t293 t302 true a1_0 l1_1)))))) else (none)))) = some r := by rw [if_pos rfl] at H; exact H
              clear H
              have H := H1
              clear H1
              replace H := Option.bind_eq_some_iff.mp H
              obtain ⟨⟨t311, t312⟩, A510, H⟩ := H
              replace H : ((laws_eqBatch.f kj18 t297 t298 t311 t312).bind fun t315 => (if t315 = true then ((laws_markPairS.f kj18 t294 1).bind fun bt316 => ((laws_markBatch.f kj18 t297 t298 bt316.1).bind fun bt318 => (if bt318.1 < 0 then (laws_FnExactMapDo.j1 kj18 l0 t290 t293 t302 true a1_0 l1_1) else ((laws_eqPairS.f kj18 t302 t290).bind fun t320 => (if t320 = true then (laws_FnExactMapDo.j1 kj18 l0 t290 t293 t302 (t305 != t293) a1_0 l1_1) else (laws_FnExactMapDo.j1 kj18 l0 t290 t293 t302 true a1_0 l1_1)))))) else (none))) = some r := H
              have A51 := Aside0.mk A510
              clear A510
              replace H := Option.bind_eq_some_iff.mp H
              obtain ⟨t315, A520, H⟩ := H
              replace H : (if t315 = true then ((laws_markPairS.f kj18 t294 1).bind fun bt316 => ((laws_markBatch.f kj18 t297 t298 bt316.1).bind fun bt318 => (if bt318.1 < 0 then (laws_FnExactMapDo.j1 kj18 l0 t290 t293 t302 true a1_0 l1_1) else ((laws_eqPairS.f kj18 t302 t290).bind fun t320 => (if t320 = true then (laws_FnExactMapDo.j1 kj18 l0 t290 t293 t302 (t305 != t293) a1_0 l1_1) else (laws_FnExactMapDo.j1 kj18 l0 t290 t293 t302 true a1_0 l1_1)))))) else (none)) = some r := H
              have A52 := Aside0.mk A520
              clear A520
              by_cases c53 : t315 = true
              · subst c53
                have H1 : ((laws_markPairS.f kj18 t294 1).bind fun bt316 => ((laws_markBatch.f kj18 t297 t298 bt316.1).bind fun bt318 => (if bt318.1 < 0 then (laws_FnExactMapDo.j1 kj18 l0 t290 t293 t302 true a1_0 l1_1) else ((laws_eqPairS.f kj18 t302 t290).bind fun t320 => (if t320 = true then (laws_FnExactMapDo.j1 kj18 l0 t290 t293 t302 (t305 != t293) a1_0 l1_1) else (laws_FnExactMapDo.j1 kj18 l0 t290 t293 t302 true a1_0 l1_1)))))) = some r := by rw [if_pos rfl] at H; exact H
                clear H
                have H := H1
                clear H1
                replace H := Option.bind_eq_some_iff.mp H
                obtain ⟨⟨t316, t317⟩, A540, H⟩ := H
                replace H : ((laws_markBatch.f kj18 t297 t298 t316).bind fun bt318 => (if bt318.1 < 0 then (laws_FnExactMapDo.j1 kj18 l0 t290 t293 t302 true a1_0 l1_1) else ((laws_eqPairS.f kj18 t302 t290).bind fun t320 => (if t320 = true then (laws_FnExactMapDo.j1 kj18 l0 t290 t293 t302 (t305 != t293) a1_0 l1_1) else (laws_FnExactMapDo.j1 kj18 l0 t290 t293 t302 true a1_0 l1_1))))) = some r := H
                have A54 := Aside0.mk A540
                clear A540
                replace H := Option.bind_eq_some_iff.mp H
                obtain ⟨⟨t318, t319⟩, A550, H⟩ := H
                replace H : (if t318 < 0 then (laws_FnExactMapDo.j1 kj18 l0 t290 t293 t302 true a1_0 l1_1) else ((laws_eqPairS.f kj18 t302 t290).bind fun t320 => (if t320 = true then (laws_FnExactMapDo.j1 kj18 l0 t290 t293 t302 (t305 != t293) a1_0 l1_1) else (laws_FnExactMapDo.j1 kj18 l0 t290 t293 t302 true a1_0 l1_1)))) = some r := H
                have A55 := Aside0.mk A550
                clear A550
                have HC56 := Aside0.mk H
                clear H
                try go_wp2_with (first | ((with_reducible refine gate_callee (f := 44) rfl ?_); refine goesL_ (some 56) rfl rfl Try.func44 (by kernel_rfl) rfl #[.slice A0 l0.length c0] rfl t7_ ?_; (with_reducible refine (laws_toPairS.calls kj18 _ _ l0 t307 _ ?side1 ?side2 A48.out).mono ?_); (case side1 => exact cB HR0 HB); (case side2 => exact HC0.out); rintro e w57 ⟨v308, rfl, ho0, hb⟩; refine ⟨_, rfl, ?_⟩; replace HO_302001 := Aside0.mk (Kd.R_below t18_ hb); have HO309 := Aside0.mk (Kd.R_lower (Kd.R_new' (Kd.R_new' (Kd.R_new' ho0 (Kd.R_lt t13_)) (Kd.R_lt t27_)) (Kd.R_lt t17_)) (below_size t8_)); replace HO_6 := Aside0.mk (Kd.R_elder' t13_ (Kd.R_base ho0) hb); replace HO_8 := Aside0.mk (Kd.R_elder' t27_ (Kd.R_base ho0) hb); replace HO_10 := Aside0.mk (Kd.R_elder' t17_ (Kd.R_base ho0) hb); replace BK280 := bkN BK280 hb; replace BK301 := bkN BK301 hb; replace HB := Aside0.mk (below_step t8_ hb); (try clear hb); (try clear hb2); (try clear hk); (try clear hi); (try clear ho0); obtain ⟨Ao58, co58, eo58⟩ := Kd.R_slice HO309.out; subst eo58) | ((with_reducible refine gate_callee (f := 46) rfl ?_); refine goesL_ (some 57) rfl rfl Try.func46 (by kernel_rfl) rfl #[.slice Ao37 t294.length co37, .slice Ao58 t307.length co58] rfl t7_ ?_; (with_reducible refine (laws_eqPairS.calls kj18 _ _ t294 _ _ t307 true _ ?side1 ?side2 ?side3 ?side4 A49.out).mono ?_); (case side1 => repeat (first | exact (Kd.R_reads' HO_8.out).2.2 | (with_reducible refine Kd.C_alloc ?_ _) | (with_reducible refine Kd.C_drewN ?_ _) | (with_reducible refine Kd.C_drew ?_))); (case side2 => exact (Kd.R_reads' HO_8.out).2.1); (case side3 => repeat (first | exact (Kd.R_reads' HO309.out).2.2 | (with_reducible refine Kd.C_alloc ?_ _) | (with_reducible refine Kd.C_drewN ?_ _) | (with_reducible refine Kd.C_drew ?_))); (case side4 => exact (Kd.R_reads' HO309.out).2.1); rintro e w59 ⟨rfl, hb⟩; refine ⟨_, rfl, ?_⟩; replace HO_6 := Aside0.mk (Kd.R_below t13_ hb); replace HO_8 := Aside0.mk (Kd.R_below t27_ hb); replace HO_10 := Aside0.mk (Kd.R_below t17_ hb); replace HO_302001 := Aside0.mk (Kd.R_below t18_ hb); replace HO309 := Aside0.mk (Kd.R_below t31_ hb); replace BK280 := bkN BK280 hb; replace BK301 := bkN BK301 hb; replace HB := Aside0.mk (below_step t8_ hb); (try clear hb); (try clear hb2); (try clear hk); (try clear hi)))
                replace HO_6 := Aside0.mk (Kd.R_drew HO_6.out)
                replace HO_8 := Aside0.mk (Kd.R_drew HO_8.out)
                replace HO_10 := Aside0.mk (Kd.R_drew HO_10.out)
                replace HO_302001 := Aside0.mk (Kd.R_drew HO_302001.out)
                replace HO309 := Aside0.mk (Kd.R_drew HO309.out)
                replace BK280 := Aside0.mk (blk_drew BK280.out)
                replace BK301 := Aside0.mk (blk_drew BK301.out)
                replace HB := Aside0.mk (below_drew1 HB.out)
                refine start_ (n := 5) (S := fun w' => w'.cell? ⟨gb301, 0, none⟩ = some (.int .i64 t297) ∧ w'.cell? ⟨gb301, 1, none⟩ = some (.slice Ao36 t298.length co36) ∧ w'.cell? ⟨gb280, 0, none⟩ = some (.int .i64 a1_0) ∧ w'.cell? ⟨gb280, 1, none⟩ = some (.slice A1_1 l1_1.length c1_1)) (ds := []) #[false, false, false, false, false] (by kernel_rfl) rfl rfl ⟨bc0 BK301, bc1 BK301, bc0 BK280, bc1 BK280⟩ (fun hHeld => ?_)
                generalize w59.drew = w60 at HO_6 HO_8 HO_10 HO_302001 HO309 BK280 BK301 HB hHeld ⊢
                refine take_ (i := 0) (N := some 59) (v := ?_) (a' := ?_) #[true, false, false, false, false] rfl rfl (by kernel_rfl) (fun _ _ _ h => h) (Or.inl ⟨by rfl, ?_⟩) hHeld ?_ ?_
                rotate_left
                · rintro w' ⟨s0, s1, s2, s3⟩
                  go_simp
                  with_reducible rfl
                rotate_left
                · simp only [Act.put, List.setIfInBounds_toArray, List.set_cons_zero, List.set_cons_succ, i64_w, i32_w]
                  rfl
                refine take_ (i := 1) (N := some 60) (v := ?_) (a' := ?_) #[true, true, false, false, false] rfl rfl (by kernel_rfl) (fun _ _ _ h => h) (Or.inl ⟨by rfl, ?_⟩) hHeld ?_ ?_
                rotate_left
                · rintro w' ⟨s0, s1, s2, s3⟩
                  go_simp
                  with_reducible rfl
                rotate_left
                · simp only [Act.put, List.setIfInBounds_toArray, List.set_cons_zero, List.set_cons_succ, i64_w, i32_w]
                  rfl
                refine one_ (i := 2) (N := some 61) #[true, true, true, false, false] rfl rfl (by kernel_rfl) (by decide) (fun K hK => ?_)
                refine goes_ Try.func45 (by kernel_rfl) rfl #[.agg #[.int .i64 a1_0, .slice A1_1 l1_1.length c1_1]] (by rfl) rfl rfl t7_ ?_
                with_reducible refine (laws_toBatch.calls kj18 a1_0 _ _ l1_1 t311 t312 _ ?side1 ?side2 A51.out).mono ?_
                (case side1 => exact cB HR1_1 HB)
                (case side2 => exact HC1_1.out)
                rintro e w61 ⟨v313, rfl, ho0, hb⟩
                refine ⟨_, rfl, ?_⟩
                replace HO_6 := Aside0.mk (Kd.R_below t13_ hb)
                replace HO_8 := Aside0.mk (Kd.R_below t27_ hb)
                replace HO_10 := Aside0.mk (Kd.R_below t17_ hb)
                replace HO309 := Aside0.mk (Kd.R_below t31_ hb)
                have HO314 := Aside0.mk (Kd.R_lower (Kd.R_new' ho0 (Kd.R_lt t18_)) (below_size t8_))
                replace HO_302001 := Aside0.mk (Kd.R_elder' t18_ (Kd.R_base ho0) hb)
                replace BK280 := bkN BK280 hb
                replace BK301 := bkN BK301 hb
                replace HB := Aside0.mk (below_step t8_ hb)
                (try clear hb)
                (try clear hb2)
                (try clear hk)
                (try clear hi)
                (try clear ho0)
                obtain ⟨Ao62, co62, eo62⟩ := Kd.R_slice HO314.out
                (first | subst eo62 | (injection eo62 with f1_ f2_ f3_; have f4_ := f1_.symm; have f5_ := f3_.symm; clear f1_ f2_ f3_; subst f4_; subst f5_))
                refine hK.out _ _ ⟨bc0 BK301, bc1 BK301, bc0 BK280, bc1 BK280⟩ (fun hHeld => ?_)
                clear hK K
                refine norm_ (a' := ?_) ?_ ?_
                rotate_left
                · show Act.put _ (some 61) _ = _
                  simp only [Act.put, List.setIfInBounds_toArray, List.set_cons_zero, List.set_cons_succ, i64_w, i32_w]
                  rfl
                refine one_ (i := 3) (N := some 62) #[true, true, true, true, false] rfl rfl (by kernel_rfl) (by decide) (fun K hK => ?_)
                refine goes_ Try.func47 (by kernel_rfl) rfl #[.agg #[.int .i64 t297, .slice Ao36 t298.length co36], .agg #[.int .i64 t311, .slice Ao62 t312.length co62]] (by rfl) rfl rfl t7_ ?_
                with_reducible refine (laws_eqBatch.calls kj18 t297 _ _ t298 t311 _ _ t312 true _ ?side1 ?side2 ?side3 ?side4 A52.out).mono ?_
                (case side1 => repeat (first | exact (Kd.R_reads' HO_302001.out).2.2 | (with_reducible refine Kd.C_alloc ?_ _) | (with_reducible refine Kd.C_drewN ?_ _) | (with_reducible refine Kd.C_drew ?_)))
                (case side2 => exact (Kd.R_reads' HO_302001.out).2.1)
                (case side3 => repeat (first | exact (Kd.R_reads' HO314.out).2.2 | (with_reducible refine Kd.C_alloc ?_ _) | (with_reducible refine Kd.C_drewN ?_ _) | (with_reducible refine Kd.C_drew ?_)))
                (case side4 => exact (Kd.R_reads' HO314.out).2.1)
                rintro e w63 ⟨rfl, hb⟩
                refine ⟨_, rfl, ?_⟩
                replace HO_6 := Aside0.mk (Kd.R_below t13_ hb)
                replace HO_8 := Aside0.mk (Kd.R_below t27_ hb)
                replace HO_10 := Aside0.mk (Kd.R_below t17_ hb)
                replace HO_302001 := Aside0.mk (Kd.R_below t18_ hb)
                replace HO309 := Aside0.mk (Kd.R_below t31_ hb)
                replace HO314 := Aside0.mk (Kd.R_below (by (with_reducible repeat (first | apply Kd.R_alloc | apply Kd.R_drewN | apply Kd.R_drew)); exact HO314.out) hb)
                replace BK280 := bkN BK280 hb
                replace BK301 := bkN BK301 hb
                replace HB := Aside0.mk (below_step t8_ hb)
                (try clear hb)
                (try clear hb2)
                (try clear hk)
                (try clear hi)
                refine hK.out _ _ ⟨bc0 BK301, bc1 BK301, bc0 BK280, bc1 BK280⟩ (fun hHeld => ?_)
                clear hK K
                refine norm_ (a' := ?_) ?_ ?_
                rotate_left
                · show Act.put _ (some 62) _ = _
                  simp only [Act.put, List.setIfInBounds_toArray, List.set_cons_zero, List.set_cons_succ, i64_w, i32_w]
                  rfl
                refine pure_ (i := 4) (N := some 63) (v := ?_) (a' := ?_) #[true, true, true, true, true] rfl rfl (by kernel_rfl) (fun _ _ _ h => h) (Or.inl ⟨by rfl, ?_⟩) ?_ ?_
                rotate_left
                · intro w'
                  go_simp
                  with_reducible rfl
                rotate_left
                · simp only [Act.put, List.setIfInBounds_toArray, List.set_cons_zero, List.set_cons_succ, i64_w, i32_w]
                  rfl
                refine done_ (by kernel_rfl) ?_
                go_upto_region 21 with (first | ((with_reducible refine gate_callee (f := 48) rfl ?_); refine goesL_ (some 66) rfl rfl Try.func48 (by kernel_rfl) rfl #[.slice Ao37 t294.length co37, .int .i64 1] rfl t7_ ?_; (with_reducible refine (laws_markPairS.calls kj18 (fun k_ => some k_ = (.slice Ao37 t294.length co37 : Value).ownBlock) (.slice Ao37 t294.length co37) t294 1 t316 t317 w _ ?side1 ?side2 A54.out).mono ?_); (case side1 => repeat (first | (with_reducible first | exact HB.out | apply below_alloc | apply pw_below_drewN | apply below_drew1 | refine below_set ?_ GE280.out | refine below_set ?_ GE301.out) | exact HB.out)); (case side2 => exact Kd.R_tight rfl HO_8.out); rintro e w64 ⟨rfl, hy0, hb, hkp⟩; refine ⟨_, rfl, ?_⟩; replace HO_6 := Aside0.mk (Kd.R_mono (ok' := fun k_ => some k_ ≠ (.slice Ao37 t294.length co37 : Value).ownBlock ∧ some k_ ≠ (v303 : Value).ownBlock ∧ some k_ ≠ (.slice Ao58 t307.length co58 : Value).ownBlock) (Kd.R_keptB (HO_6.out) hkp (fun k_ hk_ hs_ => (hk_.1.1) hs_)) (fun k_ hk_ => ⟨hk_.1.1.1, hk_.1.1.2, hk_.1.2⟩)); replace HO_10 := Aside0.mk (Kd.R_mono (ok' := fun k_ => some k_ ≠ (v291 : Value).ownBlock ∧ some k_ ≠ (.slice Ao37 t294.length co37 : Value).ownBlock ∧ some k_ ≠ (.slice Ao58 t307.length co58 : Value).ownBlock) (Kd.R_keptB (HO_10.out) hkp (fun k_ hk_ hs_ => (hk_.1.2) hs_)) (fun k_ hk_ => ⟨hk_.1.1.1, hk_.1.1.2, hk_.1.2⟩)); replace HO_302001 := Aside0.mk (Kd.R_mono (ok' := fun k_ => some k_ ≠ (.slice Ao62 t312.length co62 : Value).ownBlock) (Kd.R_keptB ((Kd.R_apart' HO_302001.out (Kd.R_typed HO_8.out) (by decide))) hkp (fun k_ hk_ hs_ => (hk_.2) hs_)) (fun k_ hk_ => hk_.1.1.2)); replace BK280 := Aside0.mk (blk_kept (by (with_reducible repeat (first | refine blk_drewN ?_ _ | refine blk_drew ?_ | refine blk_alloc ?_ _)); exact BK280.out) hkp (fun hs_ => (fun e_ => (Kd.R_ne HO_8.out BK280.out (by decide)) e_) hs_)); replace BK301 := Aside0.mk (blk_kept (by (with_reducible repeat (first | refine blk_drewN ?_ _ | refine blk_drew ?_ | refine blk_alloc ?_ _)); exact BK301.out) hkp (fun hs_ => (fun e_ => (Kd.R_ne HO_8.out BK301.out (by decide)) e_) hs_)); replace HO309 := Aside0.mk (Kd.R_mono (ok' := fun k_ => some k_ ≠ (v291 : Value).ownBlock ∧ some k_ ≠ (.slice Ao37 t294.length co37 : Value).ownBlock ∧ some k_ ≠ (v303 : Value).ownBlock) (Kd.R_keptB (HO309.out) hkp (fun k_ hk_ hs_ => (hk_.1.2) hs_)) (fun k_ hk_ => ⟨hk_.1.1.1.2, hk_.1.1.2, hk_.1.2⟩)); replace HO314 := Aside0.mk (Kd.R_mono (ok' := fun k_ => some k_ ≠ (.slice Ao36 t298.length co36 : Value).ownBlock) (Kd.R_keptB ((Kd.R_apart' HO314.out (Kd.R_typed HO_8.out) (by decide))) hkp (fun k_ hk_ hs_ => (hk_.2) hs_)) (fun k_ hk_ => hk_.1.1.2)); replace HO_8 := Aside0.mk (Kd.R_reok rfl hy0 (fun k_ e_ => HO_8.out.1 k_ e_)); replace HB := Aside0.mk (hb); (try clear hb); (try clear hkp); (try clear hy0); have hnb65 := NB301_280.out; have hnc65 := NB280_301.out; have hcz66_0 := bc0 BK301; have hcz66_1 := bc1 BK301; have hfz66_0 := bf BK301 0; have hfz66_1 := bf BK301 1) | ((with_reducible refine gate_callee (f := 49) rfl ?_); refine goesL_ (some 69) rfl rfl Try.func49 (by kernel_rfl) rfl #[.agg #[.int .i64 t297, .slice Ao36 t298.length co36], .int .i64 t316] rfl t7_ ?_; (with_reducible refine (laws_markBatch.calls kj18 t297 (fun k_ => some k_ = (.slice Ao36 t298.length co36 : Value).ownBlock) (.slice Ao36 t298.length co36) t298 t316 t318 t319 w _ ?side1 ?side2 A55.out).mono ?_); (case side1 => repeat (first | (with_reducible first | exact HB.out | apply below_alloc | apply pw_below_drewN | apply below_drew1 | refine below_set ?_ GE280.out | refine below_set ?_ GE301.out) | exact HB.out)); (case side2 => exact Kd.R_tight rfl HO_302001.out); rintro e w67 ⟨rfl, hy0, hb, hkp⟩; refine ⟨_, rfl, ?_⟩; replace HO_6 := Aside0.mk (Kd.R_mono (ok' := fun k_ => some k_ ≠ (.slice Ao37 t294.length co37 : Value).ownBlock ∧ some k_ ≠ (v303 : Value).ownBlock ∧ some k_ ≠ (.slice Ao58 t307.length co58 : Value).ownBlock) (Kd.R_keptB ((Kd.R_apart' HO_6.out (Kd.R_typed HO_302001.out) (by decide))) hkp (fun k_ hk_ hs_ => (hk_.2) hs_)) (fun k_ hk_ => ⟨hk_.1.1.1, hk_.1.1.2.1, hk_.1.1.2.2⟩)); replace HO_8 := Aside0.mk (Kd.R_mono (ok' := fun k_ => some k_ ≠ (v291 : Value).ownBlock ∧ some k_ ≠ (v303 : Value).ownBlock ∧ some k_ ≠ (.slice Ao58 t307.length co58 : Value).ownBlock) (Kd.R_keptB ((Kd.R_apart' HO_8.out (Kd.R_typed HO_302001.out) (by decide))) hkp (fun k_ hk_ hs_ => (hk_.2) hs_)) (fun k_ hk_ => ⟨hk_.1.1.1.1, hk_.1.1.1.2, hk_.1.1.2⟩)); replace HO_10 := Aside0.mk (Kd.R_mono (ok' := fun k_ => some k_ ≠ (v291 : Value).ownBlock ∧ some k_ ≠ (.slice Ao37 t294.length co37 : Value).ownBlock ∧ some k_ ≠ (.slice Ao58 t307.length co58 : Value).ownBlock) (Kd.R_keptB ((Kd.R_apart' HO_10.out (Kd.R_typed HO_302001.out) (by decide))) hkp (fun k_ hk_ hs_ => (hk_.2) hs_)) (fun k_ hk_ => ⟨hk_.1.1.1, hk_.1.1.2.1, hk_.1.1.2.2⟩)); replace BK280 := Aside0.mk (blk_kept (by (with_reducible repeat (first | refine blk_drewN ?_ _ | refine blk_drew ?_ | refine blk_alloc ?_ _)); exact BK280.out) hkp (fun hs_ => (fun e_ => (Kd.R_ne HO_302001.out BK280.out (by decide)) e_) hs_)); replace BK301 := Aside0.mk (blk_kept (by (with_reducible repeat (first | refine blk_drewN ?_ _ | refine blk_drew ?_ | refine blk_alloc ?_ _)); exact BK301.out) hkp (fun hs_ => (fun e_ => (Kd.R_ne HO_302001.out BK301.out (by decide)) e_) hs_)); replace HO309 := Aside0.mk (Kd.R_mono (ok' := fun k_ => some k_ ≠ (v291 : Value).ownBlock ∧ some k_ ≠ (.slice Ao37 t294.length co37 : Value).ownBlock ∧ some k_ ≠ (v303 : Value).ownBlock) (Kd.R_keptB ((Kd.R_apart' HO309.out (Kd.R_typed HO_302001.out) (by decide))) hkp (fun k_ hk_ hs_ => (hk_.2) hs_)) (fun k_ hk_ => ⟨hk_.1.1.1, hk_.1.1.2.1, hk_.1.1.2.2⟩)); replace HO_302001 := Aside0.mk (Kd.R_reok rfl hy0 (fun k_ e_ => HO_302001.out.1 k_ e_)); replace HO314 := Aside0.mk (Kd.R_mono (ok' := fun k_ => some k_ ≠ (.slice Ao36 t298.length co36 : Value).ownBlock) (Kd.R_keptB (HO314.out) hkp (fun k_ hk_ hs_ => (hk_) hs_)) (fun k_ hk_ => hk_.1)); replace HB := Aside0.mk (hb); (try clear hb); (try clear hkp); (try clear hy0)))
                (try simp only [Act.put, List.setIfInBounds_toArray, List.set_cons_zero, List.set_cons_succ])
                go_cut [82] (fun v82 wc => ∃ (kq : Nat) (x82_55 : Bool), v82 = .bool x82_55 ∧ Aside0 (laws_FnExactMapDo.j1 kq l0 t290 t293 t302 x82_55 a1_0 l1_1 = some r) ∧ Aside0 (kq ≤ kj18) ∧ Aside0 (Kd.R k59 59 wc w.heap.size (fun k_ => some k_ ≠ (v303 : Value).ownBlock) v291 t290) ∧ Aside0 (Kd.R k59 59 wc w.heap.size (fun k_ => some k_ ≠ (v291 : Value).ownBlock) v303 t302) ∧ Aside0 (Kd.R k109 109 wc w.heap.size (fun _ => True) (.slice Ao36 t298.length co36) t319) ∧ Aside0 (wc.heap[gb280]? = some (.cells #[.int .i64 a1_0, (.slice A1_1 l1_1.length c1_1)] 81 (0, 0))) ∧ Aside0 (wc.heap[gb301]? = some (.cells #[.int .i64 t297, (.slice Ao36 t298.length co36)] 52 (0, 0))) ∧ Aside0 (Below w.heap.size w wc))
                case first =>
                  have H := HC56.out
                  clear HC56
                  by_cases c68 : t318 < 0
                  · rw [if_pos c68] at H
                    have c68b0 : decide (t318 < 0) = true := decide_eq_true c68
                    clear c68
                    (first | rw [c68b0] | (simp only [i64_w, i32_w]; rw [c68b0]) | skip)
                    have H' := Aside0.mk H
                    clear H
                    go_wp2
                    go_meet
                    case rel => exact ⟨_, (true), t10_, H', ⟨by have := HJ18.out; first | omega | exact Nat.le_refl _⟩, ⟨by (with_reducible repeat (first | apply Kd.R_alloc | apply Kd.R_drewN | apply Kd.R_drew)); exact Kd.R_mono HO_6.out (fun _ hk => hk.2.1)⟩, ⟨by (with_reducible repeat (first | apply Kd.R_alloc | apply Kd.R_drewN | apply Kd.R_drew)); exact Kd.R_mono HO_10.out (fun _ hk => hk.1)⟩, ⟨by (with_reducible repeat (first | apply Kd.R_alloc | apply Kd.R_drewN | apply Kd.R_drew)); exact Kd.R_mono HO_302001.out (fun _ hk => trivial)⟩, ⟨by (with_reducible repeat (first | refine blk_drewN ?_ _ | refine blk_drew ?_ | refine blk_alloc ?_ _)); exact BK280.out⟩, ⟨by (with_reducible repeat (first | refine blk_drewN ?_ _ | refine blk_drew ?_ | refine blk_alloc ?_ _)); exact BK301.out⟩, ⟨t8_⟩⟩
                  · rw [if_neg c68] at H
                    have c68b0 : decide (t318 < 0) = false := decide_eq_false c68
                    clear c68
                    (first | rw [c68b0] | (simp only [i64_w, i32_w]; rw [c68b0]) | skip)
                    replace H := Option.bind_eq_some_iff.mp H
                    obtain ⟨t320, A690, H⟩ := H
                    replace H : (if t320 = true then (laws_FnExactMapDo.j1 kj18 l0 t290 t293 t302 (t305 != t293) a1_0 l1_1) else (laws_FnExactMapDo.j1 kj18 l0 t290 t293 t302 true a1_0 l1_1)) = some r := H
                    have A69 := Aside0.mk A690
                    clear A690
                    by_cases c70 : t320 = true
                    · subst c70
                      have H1 : (laws_FnExactMapDo.j1 kj18 l0 t290 t293 t302 (t305 != t293) a1_0 l1_1) = some r := by rw [if_pos rfl] at H; exact H
                      clear H
                      have H := H1
                      clear H1
                      have H' := Aside0.mk H
                      clear H
                      obtain ⟨Ao71, co71, eo71⟩ := Kd.R_slice HO_10.out
                      subst eo71
                      obtain ⟨Ao72, co72, eo72⟩ := Kd.R_slice HO_6.out
                      subst eo72
                      go_wp2_with (first | (go_at_call 46; (with_reducible refine (laws_eqPairS.calls kj18 _ _ t302 _ _ t290 true _ ?side1 ?side2 ?side3 ?side4 A69.out).mono ?_); (case side1 => repeat (first | exact (Kd.R_reads' HO_10.out).2.2 | (with_reducible refine Kd.C_alloc ?_ _) | (with_reducible refine Kd.C_drewN ?_ _) | (with_reducible refine Kd.C_drew ?_))); (case side2 => exact (Kd.R_reads' HO_10.out).2.1); (case side3 => repeat (first | exact (Kd.R_reads' HO_6.out).2.2 | (with_reducible refine Kd.C_alloc ?_ _) | (with_reducible refine Kd.C_drewN ?_ _) | (with_reducible refine Kd.C_drew ?_))); (case side4 => exact (Kd.R_reads' HO_6.out).2.1); rintro e w73 ⟨rfl, hb⟩; replace HO_6 := Aside0.mk (Kd.R_below t13_ hb); replace HO_8 := Aside0.mk (Kd.R_below t27_ hb); replace HO_10 := Aside0.mk (Kd.R_below t17_ hb); replace HO_302001 := Aside0.mk (Kd.R_below t18_ hb); replace HO309 := Aside0.mk (Kd.R_below t31_ hb); replace HO314 := Aside0.mk (Kd.R_below (by (with_reducible repeat (first | apply Kd.R_alloc | apply Kd.R_drewN | apply Kd.R_drew)); exact HO314.out) hb); replace BK280 := bkN BK280 hb; replace BK301 := bkN BK301 hb; replace HB := Aside0.mk (below_step t8_ hb); (try clear hb); (try clear hb2); (try clear hk); (try clear hi)))
                      go_meet
                      case rel => exact ⟨_, ((t305 != t293)), t10_, H', ⟨by have := HJ18.out; first | omega | exact Nat.le_refl _⟩, ⟨by (with_reducible repeat (first | apply Kd.R_alloc | apply Kd.R_drewN | apply Kd.R_drew)); exact Kd.R_mono HO_6.out (fun _ hk => hk.2.1)⟩, ⟨by (with_reducible repeat (first | apply Kd.R_alloc | apply Kd.R_drewN | apply Kd.R_drew)); exact Kd.R_mono HO_10.out (fun _ hk => hk.1)⟩, ⟨by (with_reducible repeat (first | apply Kd.R_alloc | apply Kd.R_drewN | apply Kd.R_drew)); exact Kd.R_mono HO_302001.out (fun _ hk => trivial)⟩, ⟨by (with_reducible repeat (first | refine blk_drewN ?_ _ | refine blk_drew ?_ | refine blk_alloc ?_ _)); exact BK280.out⟩, ⟨by (with_reducible repeat (first | refine blk_drewN ?_ _ | refine blk_drew ?_ | refine blk_alloc ?_ _)); exact BK301.out⟩, ⟨t8_⟩⟩
                    · replace c70 := Bool.eq_false_iff.mpr c70
                      subst c70
                      have H1 : (laws_FnExactMapDo.j1 kj18 l0 t290 t293 t302 true a1_0 l1_1) = some r := by rw [if_neg (show ¬ (false = true) by decide)] at H; exact H
                      clear H
                      have H := H1
                      clear H1
                      have H' := Aside0.mk H
                      clear H
                      obtain ⟨Ao74, co74, eo74⟩ := Kd.R_slice HO_10.out
                      subst eo74
                      obtain ⟨Ao75, co75, eo75⟩ := Kd.R_slice HO_6.out
                      subst eo75
                      go_wp2_with (first | (go_at_call 46; (with_reducible refine (laws_eqPairS.calls kj18 _ _ t302 _ _ t290 false _ ?side1 ?side2 ?side3 ?side4 A69.out).mono ?_); (case side1 => repeat (first | exact (Kd.R_reads' HO_10.out).2.2 | (with_reducible refine Kd.C_alloc ?_ _) | (with_reducible refine Kd.C_drewN ?_ _) | (with_reducible refine Kd.C_drew ?_))); (case side2 => exact (Kd.R_reads' HO_10.out).2.1); (case side3 => repeat (first | exact (Kd.R_reads' HO_6.out).2.2 | (with_reducible refine Kd.C_alloc ?_ _) | (with_reducible refine Kd.C_drewN ?_ _) | (with_reducible refine Kd.C_drew ?_))); (case side4 => exact (Kd.R_reads' HO_6.out).2.1); rintro e w76 ⟨rfl, hb⟩; replace HO_6 := Aside0.mk (Kd.R_below t13_ hb); replace HO_8 := Aside0.mk (Kd.R_below t27_ hb); replace HO_10 := Aside0.mk (Kd.R_below t17_ hb); replace HO_302001 := Aside0.mk (Kd.R_below t18_ hb); replace HO309 := Aside0.mk (Kd.R_below t31_ hb); replace HO314 := Aside0.mk (Kd.R_below (by (with_reducible repeat (first | apply Kd.R_alloc | apply Kd.R_drewN | apply Kd.R_drew)); exact HO314.out) hb); replace BK280 := bkN BK280 hb; replace BK301 := bkN BK301 hb; replace HB := Aside0.mk (below_step t8_ hb); (try clear hb); (try clear hb2); (try clear hk); (try clear hi)))
                      go_meet
                      case rel => exact ⟨_, (true), t10_, H', ⟨by have := HJ18.out; first | omega | exact Nat.le_refl _⟩, ⟨by (with_reducible repeat (first | apply Kd.R_alloc | apply Kd.R_drewN | apply Kd.R_drew)); exact Kd.R_mono HO_6.out (fun _ hk => hk.2.1)⟩, ⟨by (with_reducible repeat (first | apply Kd.R_alloc | apply Kd.R_drewN | apply Kd.R_drew)); exact Kd.R_mono HO_10.out (fun _ hk => hk.1)⟩, ⟨by (with_reducible repeat (first | apply Kd.R_alloc | apply Kd.R_drewN | apply Kd.R_drew)); exact Kd.R_mono HO_302001.out (fun _ hk => trivial)⟩, ⟨by (with_reducible repeat (first | refine blk_drewN ?_ _ | refine blk_drew ?_ | refine blk_alloc ?_ _)); exact BK280.out⟩, ⟨by (with_reducible repeat (first | refine blk_drewN ?_ _ | refine blk_drew ?_ | refine blk_alloc ?_ _)); exact BK301.out⟩, ⟨t8_⟩⟩
                case rest =>
                  clear HC56
                  try clear c1
                  try clear c2
                  try clear p2
                  try clear c3
                  try clear c4
                  try clear c4b0
                  try clear c5
                  try clear c6
                  try clear c7
                  try clear c8
                  try clear c8b0
                  try clear c25
                  try clear c34
                  try clear c40
                  try clear c41
                  try clear c42
                  try clear c43
                  try clear c44
                  try clear c45
                  try clear c46
                  try clear c47
                  try clear c48
                  try clear c49
                  try clear c50
                  try clear c53
                  try clear c65
                  try clear c68
                  try clear c68b0
                  try clear c70
                  try clear hcz11_0
                  try clear hcz11_1
                  try clear hcz22_0
                  try clear hcz22_1
                  try clear hcz31_0
                  try clear hcz31_1
                  try clear hcz35_0
                  try clear hcz35_1
                  try clear hcz66_0
                  try clear hcz66_1
                  try clear hfz11_0
                  try clear hfz11_1
                  try clear hfz22_0
                  try clear hfz22_1
                  try clear hfz31_0
                  try clear hfz31_1
                  try clear hfz35_0
                  try clear hfz35_1
                  try clear hfz66_0
                  try clear hfz66_1
                  try clear p2
                  obtain ⟨kq, x82_55, rfl, HA, HJ55, HO_6, HO_10, HO_302001, BK280, BK301, HB⟩ := hcut
                  have hl302001_55 := (Kd.R_reads' HO_302001.out).1
                  rw [hl302001_55] at HO_302001
                  (try simp only [hl302001_55])
                  (try simp only [hl302001_55] at BK280)
                  (try simp only [hl302001_55] at BK301)
                  (try simp only [hl302001_55] at HO_6)
                  (try simp only [hl302001_55] at HO_10)
                  cases kq with
                  | zero => exact absurd HA.out (by simp [laws_FnExactMapDo.j1])
                  | succ kj55 =>
                    have H := HA.out
                    clear HA
                    simp only [laws_FnExactMapDo.j1] at H
                    by_cases c77 : x82_55 = true
                    · subst c77
                      have H1 : (none) = some r := by rw [if_pos rfl] at H; exact H
                      clear H
                      have H := H1
                      clear H1
                      exact absurd H (by simp)
                    · replace c77 := Bool.eq_false_iff.mpr c77
                      subst c77
                      have H1 : ((laws_markPairS.f kj55 t302 1).bind fun bt321 => ((laws_heldPairS.f kj55 bt321.2 1).bind fun t323 => (if t323 < 0 then (none) else (if t323 = bt321.1 then ((laws_toPairS.f kj55 l0).bind fun t324 => ((laws_toBatch.f kj55 a1_0 l1_1).bind fun bt327 => ((impl_MapDo.f kj55 t324 bt327.1 bt327.2).bind fun bt331 => ((laws_eqPairS.f kj55 bt331.1 t290).bind fun t335 => (if t335 = true then (laws_FnExactMapDo.j2 kj55 bt321.2 bt321.1 (bt331.2 != t293)) else (laws_FnExactMapDo.j2 kj55 bt321.2 bt321.1 true)))))) else (none))))) = some r := by rw [if_neg (show ¬ (false = true) by decide)] at H; exact H
                      clear H
                      have H := H1
                      clear H1
                      replace H := Option.bind_eq_some_iff.mp H
                      obtain ⟨⟨t321, t322⟩, A780, H⟩ := H
                      replace H : ((laws_heldPairS.f kj55 t322 1).bind fun t323 => (if t323 < 0 then (none) else (if t323 = t321 then ((laws_toPairS.f kj55 l0).bind fun t324 => ((laws_toBatch.f kj55 a1_0 l1_1).bind fun bt327 => ((impl_MapDo.f kj55 t324 bt327.1 bt327.2).bind fun bt331 => ((laws_eqPairS.f kj55 bt331.1 t290).bind fun t335 => (if t335 = true then (laws_FnExactMapDo.j2 kj55 t322 t321 (bt331.2 != t293)) else (laws_FnExactMapDo.j2 kj55 t322 t321 true)))))) else (none)))) = some r := H
                      have A78 := Aside0.mk A780
                      clear A780
                      replace H := Option.bind_eq_some_iff.mp H
                      obtain ⟨t323, A790, H⟩ := H
                      replace H : (if t323 < 0 then (none) else (if t323 = t321 then ((laws_toPairS.f kj55 l0).bind fun t324 => ((laws_toBatch.f kj55 a1_0 l1_1).bind fun bt327 => ((impl_MapDo.f kj55 t324 bt327.1 bt327.2).bind fun bt331 => ((laws_eqPairS.f kj55 bt331.1 t290).bind fun t335 => (if t335 = true then (laws_FnExactMapDo.j2 kj55 t322 t321 (bt331.2 != t293)) else (laws_FnExactMapDo.j2 kj55 t322 t321 true)))))) else (none))) = some r := H
                      have A79 := Aside0.mk A790
                      clear A790
                      by_cases c80 : t323 < 0
                      · rw [if_pos c80] at H
                        exact absurd H (by simp)
                      · rw [if_neg c80] at H
                        have c80b0 : decide (t323 < 0) = false := decide_eq_false c80
                        clear c80
                        by_cases c81 : t323 = t321
                        · rw [if_pos c81] at H
                          have c81b0 : (t323 == t321) = true := beq_iff_eq.mpr c81
                          have c81b1 : (t323 != t321) = false := bne_eq_false_iff_eq.mpr c81
                          clear c81
                          replace H := Option.bind_eq_some_iff.mp H
                          obtain ⟨t324, A820, H⟩ := H
                          replace H : ((laws_toBatch.f kj55 a1_0 l1_1).bind fun bt327 => ((impl_MapDo.f kj55 t324 bt327.1 bt327.2).bind fun bt331 => ((laws_eqPairS.f kj55 bt331.1 t290).bind fun t335 => (if t335 = true then (laws_FnExactMapDo.j2 kj55 t322 t321 (bt331.2 != t293)) else (laws_FnExactMapDo.j2 kj55 t322 t321 true))))) = some r := H
                          have A82 := Aside0.mk A820
                          clear A820
                          replace H := Option.bind_eq_some_iff.mp H
                          obtain ⟨⟨t327, t328⟩, A830, H⟩ := H
                          replace H : ((impl_MapDo.f kj55 t324 t327 t328).bind fun bt331 => ((laws_eqPairS.f kj55 bt331.1 t290).bind fun t335 => (if t335 = true then (laws_FnExactMapDo.j2 kj55 t322 t321 (bt331.2 != t293)) else (laws_FnExactMapDo.j2 kj55 t322 t321 true)))) = some r := H
                          have A83 := Aside0.mk A830
                          clear A830
                          replace H := Option.bind_eq_some_iff.mp H
                          obtain ⟨⟨t331, t334⟩, A840, H⟩ := H
                          replace H : ((laws_eqPairS.f kj55 t331 t290).bind fun t335 => (if t335 = true then (laws_FnExactMapDo.j2 kj55 t322 t321 (t334 != t293)) else (laws_FnExactMapDo.j2 kj55 t322 t321 true))) = some r := H
                          have A84 := Aside0.mk A840
                          clear A840
                          have HC85 := Aside0.mk H
                          clear H
                          obtain ⟨Ao86, co86, eo86⟩ := Kd.R_slice HO_10.out
                          subst eo86
                          try go_wp2_with (first | ((with_reducible refine gate_callee (f := 48) rfl ?_); refine goesL_ (some 85) rfl rfl Try.func48 (by kernel_rfl) rfl #[.slice Ao86 t302.length co86, .int .i64 1] rfl t7_ ?_; (with_reducible refine (laws_markPairS.calls kj55 (fun k_ => some k_ = (.slice Ao86 t302.length co86 : Value).ownBlock) (.slice Ao86 t302.length co86) t302 1 t321 t322 w _ ?side1 ?side2 A78.out).mono ?_); (case side1 => repeat (first | (with_reducible first | exact HB.out | apply below_alloc | apply pw_below_drewN | apply below_drew1 | refine below_set ?_ GE280.out | refine below_set ?_ GE301.out) | exact HB.out)); (case side2 => exact Kd.R_tight rfl HO_10.out); rintro e w87 ⟨rfl, hy0, hb, hkp⟩; refine ⟨_, rfl, ?_⟩; replace HO_6 := Aside0.mk (Kd.R_mono (ok' := fun k_ => some k_ ≠ (.slice Ao86 t302.length co86 : Value).ownBlock) (Kd.R_keptB (HO_6.out) hkp (fun k_ hk_ hs_ => (hk_) hs_)) (fun k_ hk_ => hk_.1)); replace HO_302001 := Aside0.mk (Kd.R_mono (ok' := fun k_ => True) (Kd.R_keptB ((Kd.R_apart' HO_302001.out (Kd.R_typed HO_10.out) (by decide))) hkp (fun k_ hk_ hs_ => (hk_.2) hs_)) (fun k_ hk_ => trivial)); replace BK280 := Aside0.mk (blk_kept (by (with_reducible repeat (first | refine blk_drewN ?_ _ | refine blk_drew ?_ | refine blk_alloc ?_ _)); exact BK280.out) hkp (fun hs_ => (fun e_ => (Kd.R_ne HO_10.out BK280.out (by decide)) e_) hs_)); replace BK301 := Aside0.mk (blk_kept (by (with_reducible repeat (first | refine blk_drewN ?_ _ | refine blk_drew ?_ | refine blk_alloc ?_ _)); exact BK301.out) hkp (fun hs_ => (fun e_ => (Kd.R_ne HO_10.out BK301.out (by decide)) e_) hs_)); replace HO_10 := Aside0.mk (Kd.R_reok rfl hy0 (fun k_ e_ => HO_10.out.1 k_ e_)); replace HB := Aside0.mk (hb); (try clear hb); (try clear hkp); (try clear hy0)) | ((with_reducible refine gate_callee (f := 50) rfl ?_); refine goesL_ (some 88) rfl rfl Try.func50 (by kernel_rfl) rfl #[.slice Ao86 t322.length co86, .int .i64 1] rfl (by (try simp only [List.map_toArray, List.map_cons, List.map_nil]); first | done | (rw [show t322.length = t302.length from (Kd.R_reads' HO_10.out).1.symm] <;> rfl) | rfl | (simp only [List.length_drop, List.length_take]; rfl)) ?_; (with_reducible refine (laws_heldPairS.calls kj55 _ _ t322 1 t323 _ ?side1 ?side2 A79.out).mono ?_); (case side1 => repeat (first | exact (Kd.R_reads' HO_10.out).2.2 | (with_reducible refine Kd.C_alloc ?_ _) | (with_reducible refine Kd.C_drewN ?_ _) | (with_reducible refine Kd.C_drew ?_))); (case side2 => rw [show t322.length = t302.length from (Kd.R_reads' HO_10.out).1.symm]; exact (Kd.R_reads' HO_10.out).2.1); rintro e w88 ⟨rfl, hb⟩; refine ⟨_, rfl, ?_⟩; replace HO_6 := Aside0.mk (Kd.R_below t13_ hb); replace HO_10 := Aside0.mk (Kd.R_below t17_ hb); replace HO_302001 := Aside0.mk (Kd.R_below t18_ hb); replace BK280 := bkN BK280 hb; replace BK301 := bkN BK301 hb; replace HB := Aside0.mk (below_step t8_ hb); (try clear hb); (try clear hb2); (try clear hk); (try clear hi)))
                          replace HO_6 := Aside0.mk (Kd.R_drew HO_6.out)
                          replace HO_10 := Aside0.mk (Kd.R_drew HO_10.out)
                          replace HO_302001 := Aside0.mk (Kd.R_drew HO_302001.out)
                          replace BK280 := Aside0.mk (blk_drew BK280.out)
                          replace BK301 := Aside0.mk (blk_drew BK301.out)
                          replace HB := Aside0.mk (below_drew1 HB.out)
                          refine start_ (n := 10) (S := fun w' => w'.cell? ⟨gb280, 0, none⟩ = some (.int .i64 a1_0) ∧ w'.cell? ⟨gb280, 1, none⟩ = some (.slice A1_1 l1_1.length c1_1)) (ds := []) #[false, false, false, false, false, false, false, false, false, false] (by kernel_rfl) rfl rfl ⟨bc0 BK280, bc1 BK280⟩ (fun hHeld => ?_); refine with_tabW laws_FnExactMapDo.tab31 laws_FnExactMapDo.bits31 (fun HT_ HW_ => ?_)
                          generalize w88.drew = w89 at HO_6 HO_10 HO_302001 BK280 BK301 HB hHeld ⊢
                          refine pure_ (i := 0) (N := some 95) (v := ?_) (a' := ?_) #[true, false, false, false, false, false, false, false, false, false] rfl rfl (any_of HT_.out (by kernel_rfl)) (fun _ _ _ h => h) (Or.inl ⟨by rfl, ?_⟩) ?_ ?_
                          rotate_left
                          · intro w'
                            go_simp
                            with_reducible rfl
                          rotate_left
                          · simp only [Act.put, List.setIfInBounds_toArray, List.set_cons_zero, List.set_cons_succ, i64_w, i32_w]
                            rfl
                          refine take_ (i := 2) (N := some 97) (v := ?_) (a' := ?_) #[true, false, true, false, false, false, false, false, false, false] rfl rfl (take_ofW HT_.out HW_.out (by kernel_rfl)) (fun _ _ _ h => h) (Or.inl ⟨by rfl, ?_⟩) hHeld ?_ ?_
                          rotate_left
                          · rintro w' ⟨s0, s1⟩
                            go_simp
                            with_reducible rfl
                          rotate_left
                          · simp only [Act.put, List.setIfInBounds_toArray, List.set_cons_zero, List.set_cons_succ, i64_w, i32_w]
                            rfl
                          refine one_ (i := 1) (N := some 96) #[true, true, true, false, false, false, false, false, false, false] rfl rfl (one_of HT_.out (by kernel_rfl)) (by decide) (fun K hK => ?_)
                          refine goes_ Try.func44 (by kernel_rfl) rfl #[.slice A0 l0.length c0] (by rfl) rfl rfl t7_ ?_
                          with_reducible refine (laws_toPairS.calls kj55 _ _ l0 t324 _ ?side1 ?side2 A82.out).mono ?_
                          (case side1 => exact cB HR0 HB)
                          (case side2 => exact HC0.out)
                          rintro e w90 ⟨v325, rfl, ho0, hb⟩
                          refine ⟨_, rfl, ?_⟩
                          replace HO_302001 := Aside0.mk (Kd.R_below t18_ hb)
                          have HO326 := Aside0.mk (Kd.R_lower (Kd.R_new' (Kd.R_new' ho0 (Kd.R_lt t13_)) (Kd.R_lt t17_)) (below_size t8_))
                          replace HO_6 := Aside0.mk (Kd.R_elder' t13_ (Kd.R_base ho0) hb)
                          replace HO_10 := Aside0.mk (Kd.R_elder' t17_ (Kd.R_base ho0) hb)
                          replace BK280 := bkN BK280 hb
                          replace BK301 := bkN BK301 hb
                          replace HB := Aside0.mk (below_step t8_ hb)
                          (try clear hb)
                          (try clear hb2)
                          (try clear hk)
                          (try clear hi)
                          (try clear ho0)
                          refine hK.out _ _ ⟨bc0 BK280, bc1 BK280⟩ (fun hHeld => ?_)
                          clear hK K
                          refine norm_ (a' := ?_) ?_ ?_
                          rotate_left
                          · show Act.put _ (some 96) _ = _
                            simp only [Act.put, List.setIfInBounds_toArray, List.set_cons_zero, List.set_cons_succ, i64_w, i32_w]
                            rfl
                          refine one_ (i := 3) (N := some 98) #[true, true, true, true, false, false, false, false, false, false] rfl rfl (one_of HT_.out (by kernel_rfl)) (by decide) (fun K hK => ?_)
                          refine goes_ Try.func45 (by kernel_rfl) rfl #[.agg #[.int .i64 a1_0, .slice A1_1 l1_1.length c1_1]] (by rfl) rfl rfl t7_ ?_
                          with_reducible refine (laws_toBatch.calls kj55 a1_0 _ _ l1_1 t327 t328 _ ?side1 ?side2 A83.out).mono ?_
                          (case side1 => exact cB HR1_1 HB)
                          (case side2 => exact HC1_1.out)
                          rintro e w91 ⟨v329, rfl, ho0, hb⟩
                          refine ⟨_, rfl, ?_⟩
                          replace HO_6 := Aside0.mk (Kd.R_below t13_ hb)
                          replace HO_10 := Aside0.mk (Kd.R_below t17_ hb)
                          replace HO326 := Aside0.mk (Kd.R_below t32_ hb)
                          have HO330 := Aside0.mk (Kd.R_lower (Kd.R_new' ho0 (Kd.R_lt t18_)) (below_size t8_))
                          replace HO_302001 := Aside0.mk (Kd.R_elder' t18_ (Kd.R_base ho0) hb)
                          replace BK280 := bkN BK280 hb
                          replace BK301 := bkN BK301 hb
                          replace HB := Aside0.mk (below_step t8_ hb)
                          (try clear hb)
                          (try clear hb2)
                          (try clear hk)
                          (try clear hi)
                          (try clear ho0)
                          obtain ⟨Ao92, co92, eo92⟩ := Kd.R_slice HO326.out
                          (first | subst eo92 | (injection eo92 with f1_ f2_ f3_; have f4_ := f1_.symm; have f5_ := f3_.symm; clear f1_ f2_ f3_; subst f4_; subst f5_))
                          obtain ⟨Ao93, co93, eo93⟩ := Kd.R_slice HO330.out
                          (first | subst eo93 | (injection eo93 with f1_ f2_ f3_; have f4_ := f1_.symm; have f5_ := f3_.symm; clear f1_ f2_ f3_; subst f4_; subst f5_))
                          refine hK.out _ _ ⟨bc0 BK280, bc1 BK280⟩ (fun hHeld => ?_)
                          clear hK K
                          refine norm_ (a' := ?_) ?_ ?_
                          rotate_left
                          · show Act.put _ (some 98) _ = _
                            simp only [Act.put, List.setIfInBounds_toArray, List.set_cons_zero, List.set_cons_succ, i64_w, i32_w]
                            rfl
                          refine one_ (i := 4) (N := some 99) #[true, true, true, true, true, false, false, false, false, false] rfl rfl (one_of HT_.out (by kernel_rfl)) (by decide) (fun K hK => ?_)
                          refine goes_ Try.func25 (by kernel_rfl) rfl #[.slice Ao92 t324.length co92, .agg #[.int .i64 t327, .slice Ao93 t328.length co93]] (by rfl) rfl rfl t7_ ?_
                          with_reducible refine (impl_MapDo.calls kj55 _ _ t324 t327 _ _ t328 t331 t334 _ ?side1 ?side2 ?side3 ?side4 A84.out).mono ?_
                          (case side1 => repeat (first | exact (Kd.R_reads' HO326.out).2.2 | (with_reducible refine Kd.C_alloc ?_ _) | (with_reducible refine Kd.C_drewN ?_ _) | (with_reducible refine Kd.C_drew ?_)))
                          (case side2 => exact (Kd.R_reads' HO326.out).2.1)
                          (case side3 => repeat (first | exact (Kd.R_reads' HO330.out).2.2 | (with_reducible refine Kd.C_alloc ?_ _) | (with_reducible refine Kd.C_drewN ?_ _) | (with_reducible refine Kd.C_drew ?_)))
                          (case side4 => exact (Kd.R_reads' HO330.out).2.1)
                          rintro e w94 ⟨v332, rfl, ho0, hb⟩
                          refine ⟨_, rfl, ?_⟩
                          replace HO_302001 := Aside0.mk (Kd.R_below t18_ hb)
                          replace HO330 := Aside0.mk (Kd.R_below (by (with_reducible repeat (first | apply Kd.R_alloc | apply Kd.R_drewN | apply Kd.R_drew)); exact HO330.out) hb)
                          have HO333 := Aside0.mk (Kd.R_lower (Kd.R_new' (Kd.R_new' (Kd.R_new' ho0 (Kd.R_lt t13_)) (Kd.R_lt t17_)) (Kd.R_lt t32_)) (below_size t8_))
                          replace HO_6 := Aside0.mk (Kd.R_elder' t13_ (Kd.R_base ho0) hb)
                          replace HO_10 := Aside0.mk (Kd.R_elder' t17_ (Kd.R_base ho0) hb)
                          replace HO326 := Aside0.mk (Kd.R_elder' t32_ (Kd.R_base ho0) hb)
                          replace BK280 := bkN BK280 hb
                          replace BK301 := bkN BK301 hb
                          replace HB := Aside0.mk (below_step t8_ hb)
                          (try clear hb)
                          (try clear hb2)
                          (try clear hk)
                          (try clear hi)
                          (try clear ho0)
                          refine hK.out _ _ ⟨bc0 BK280, bc1 BK280⟩ (fun hHeld => ?_)
                          clear hK K
                          refine norm_ (a' := ?_) ?_ ?_
                          rotate_left
                          · show Act.put _ (some 99) _ = _
                            simp only [Act.put, List.setIfInBounds_toArray, List.set_cons_zero, List.set_cons_succ, i64_w, i32_w]
                            rfl
                          refine pure_ (i := 5) (N := some 94) (v := ?_) (a' := ?_) #[true, true, true, true, true, true, false, false, false, false] rfl rfl (any_of HT_.out (by kernel_rfl)) (fun _ _ _ h => h) (Or.inl ⟨by rfl, ?_⟩) ?_ ?_
                          rotate_left
                          · intro w'
                            go_simp
                            with_reducible rfl
                          rotate_left
                          · simp only [Act.put, List.setIfInBounds_toArray, List.set_cons_zero, List.set_cons_succ, i64_w, i32_w]
                            rfl
                          refine pure_ (i := 6) (N := some 100) (v := ?_) (a' := ?_) #[true, true, true, true, true, true, true, false, false, false] rfl rfl (any_of HT_.out (by kernel_rfl)) (fun _ _ _ h => h) (Or.inl ⟨by rfl, ?_⟩) ?_ ?_
                          rotate_left
                          · intro w'
                            go_simp
                            with_reducible rfl
                          rotate_left
                          · simp only [Act.put, List.setIfInBounds_toArray, List.set_cons_zero, List.set_cons_succ, i64_w, i32_w]
                            rfl
                          refine pure_ (i := 7) (N := some 101) (v := ?_) (a' := ?_) #[true, true, true, true, true, true, true, true, false, false] rfl rfl (any_of HT_.out (by kernel_rfl)) (fun _ _ _ h => h) (Or.inl ⟨by rfl, ?_⟩) ?_ ?_
                          rotate_left
                          · intro w'
                            go_simp
                            with_reducible rfl
                          rotate_left
                          · simp only [Act.put, List.setIfInBounds_toArray, List.set_cons_zero, List.set_cons_succ, i64_w, i32_w]
                            rfl
                          refine pure_ (i := 8) (N := some 15) (v := ?_) (a' := ?_) #[true, true, true, true, true, true, true, true, true, false] rfl rfl (any_of HT_.out (by kernel_rfl)) (fun _ _ _ h => h) (Or.inl ⟨by rfl, ?_⟩) ?_ ?_
                          rotate_left
                          · intro w'
                            go_simp
                            with_reducible rfl
                          rotate_left
                          · simp only [Act.put, List.setIfInBounds_toArray, List.set_cons_zero, List.set_cons_succ, i64_w, i32_w]
                            rfl
                          refine pure_ (i := 9) (N := some 16) (v := ?_) (a' := ?_) #[true, true, true, true, true, true, true, true, true, true] rfl rfl (any_of HT_.out (by kernel_rfl)) (fun _ _ _ h => h) (Or.inl ⟨by rfl, ?_⟩) ?_ ?_
                          rotate_left
                          · intro w'
                            go_simp
                            with_reducible rfl
                          rotate_left
                          · simp only [Act.put, List.setIfInBounds_toArray, List.set_cons_zero, List.set_cons_succ, i64_w, i32_w]
                            rfl
                          refine done_ (done_of HT_.out (by kernel_rfl)) ?_
                          go_upto_region 32 with (fail)
                          go_cut [110] (fun v110 wc => ∃ (kq : Nat) (x110_84 : Bool), v110 = .bool x110_84 ∧ Aside0 (laws_FnExactMapDo.j2 kq t322 t321 x110_84 = some r) ∧ Aside0 (kq ≤ kj55) ∧ Aside0 (Kd.R k59 59 wc w.heap.size (fun _ => True) (.slice Ao86 t302.length co86) t322) ∧ Aside0 (Kd.R k109 109 wc w.heap.size (fun _ => True) (.slice Ao36 t319.length co36) t319) ∧ Aside0 (wc.heap[gb280]? = some (.cells #[.int .i64 a1_0, (.slice A1_1 l1_1.length c1_1)] 81 (0, 0))) ∧ Aside0 (wc.heap[gb301]? = some (.cells #[.int .i64 t297, (.slice Ao36 t319.length co36)] 52 (0, 0))) ∧ Aside0 (Below w.heap.size w wc))
                          case first =>
                            have H := HC85.out
                            clear HC85
                            replace H := Option.bind_eq_some_iff.mp H
                            obtain ⟨t335, A950, H⟩ := H
                            replace H : (if t335 = true then (laws_FnExactMapDo.j2 kj55 t322 t321 (t334 != t293)) else (laws_FnExactMapDo.j2 kj55 t322 t321 true)) = some r := H
                            have A95 := Aside0.mk A950
                            clear A950
                            by_cases c96 : t335 = true
                            · subst c96
                              have H1 : (laws_FnExactMapDo.j2 kj55 t322 t321 (t334 != t293)) = some r := by rw [if_pos rfl] at H; exact H
                              clear H
                              have H := H1
                              clear H1
                              have H' := Aside0.mk H
                              clear H
                              obtain ⟨Ao97, co97, eo97⟩ := Kd.R_slice HO333.out
                              subst eo97
                              obtain ⟨Ao98, co98, eo98⟩ := Kd.R_slice HO_6.out
                              subst eo98
                              go_wp2_with (first | ((with_reducible refine gate_callee (f := 46) rfl ?_); refine goesL_ (some 104) rfl rfl Try.func46 (by kernel_rfl) rfl #[.slice Ao97 t331.length co97, .slice Ao98 t290.length co98] rfl t7_ ?_; (with_reducible refine (laws_eqPairS.calls kj55 _ _ t331 _ _ t290 true _ ?side1 ?side2 ?side3 ?side4 A95.out).mono ?_); (case side1 => repeat (first | exact (Kd.R_reads' HO333.out).2.2 | (with_reducible refine Kd.C_alloc ?_ _) | (with_reducible refine Kd.C_drewN ?_ _) | (with_reducible refine Kd.C_drew ?_))); (case side2 => exact (Kd.R_reads' HO333.out).2.1); (case side3 => repeat (first | exact (Kd.R_reads' HO_6.out).2.2 | (with_reducible refine Kd.C_alloc ?_ _) | (with_reducible refine Kd.C_drewN ?_ _) | (with_reducible refine Kd.C_drew ?_))); (case side4 => exact (Kd.R_reads' HO_6.out).2.1); rintro e w99 ⟨rfl, hb⟩; refine ⟨_, rfl, ?_⟩; replace HO_6 := Aside0.mk (Kd.R_below t13_ hb); replace HO_10 := Aside0.mk (Kd.R_below t17_ hb); replace HO_302001 := Aside0.mk (Kd.R_below t18_ hb); replace HO326 := Aside0.mk (Kd.R_below t32_ hb); replace HO330 := Aside0.mk (Kd.R_below (by (with_reducible repeat (first | apply Kd.R_alloc | apply Kd.R_drewN | apply Kd.R_drew)); exact HO330.out) hb); replace HO333 := Aside0.mk (Kd.R_below (by (with_reducible repeat (first | apply Kd.R_alloc | apply Kd.R_drewN | apply Kd.R_drew)); exact HO333.out) hb); replace BK280 := bkN BK280 hb; replace BK301 := bkN BK301 hb; replace HB := Aside0.mk (below_step t8_ hb); (try clear hb); (try clear hb2); (try clear hk); (try clear hi)))
                              go_meet
                              case rel => exact ⟨_, ((t334 != t293)), t10_, H', ⟨by have := HJ18.out; have := HJ55.out; first | omega | exact Nat.le_refl _⟩, ⟨by (try simp only [hl302001_55]); (with_reducible repeat (first | apply Kd.R_alloc | apply Kd.R_drewN | apply Kd.R_drew)); exact Kd.R_mono HO_10.out (fun _ hk => trivial)⟩, ⟨by (try simp only [hl302001_55]); (with_reducible repeat (first | apply Kd.R_alloc | apply Kd.R_drewN | apply Kd.R_drew)); exact Kd.R_mono HO_302001.out (fun _ hk => trivial)⟩, ⟨by (try simp only [hl302001_55]); (with_reducible repeat (first | refine blk_drewN ?_ _ | refine blk_drew ?_ | refine blk_alloc ?_ _)); exact BK280.out⟩, ⟨by (try simp only [hl302001_55]); (with_reducible repeat (first | refine blk_drewN ?_ _ | refine blk_drew ?_ | refine blk_alloc ?_ _)); exact BK301.out⟩, ⟨t8_⟩⟩
                            · replace c96 := Bool.eq_false_iff.mpr c96
                              subst c96
                              have H1 : (laws_FnExactMapDo.j2 kj55 t322 t321 true) = some r := by rw [if_neg (show ¬ (false = true) by decide)] at H; exact H
                              clear H
                              have H := H1
                              clear H1
                              have H' := Aside0.mk H
                              clear H
                              obtain ⟨Ao100, co100, eo100⟩ := Kd.R_slice HO333.out
                              subst eo100
                              obtain ⟨Ao101, co101, eo101⟩ := Kd.R_slice HO_6.out
                              subst eo101
                              go_wp2_with (first | ((with_reducible refine gate_callee (f := 46) rfl ?_); refine goesL_ (some 104) rfl rfl Try.func46 (by kernel_rfl) rfl #[.slice Ao100 t331.length co100, .slice Ao101 t290.length co101] rfl t7_ ?_; (with_reducible refine (laws_eqPairS.calls kj55 _ _ t331 _ _ t290 false _ ?side1 ?side2 ?side3 ?side4 A95.out).mono ?_); (case side1 => repeat (first | exact (Kd.R_reads' HO333.out).2.2 | (with_reducible refine Kd.C_alloc ?_ _) | (with_reducible refine Kd.C_drewN ?_ _) | (with_reducible refine Kd.C_drew ?_))); (case side2 => exact (Kd.R_reads' HO333.out).2.1); (case side3 => repeat (first | exact (Kd.R_reads' HO_6.out).2.2 | (with_reducible refine Kd.C_alloc ?_ _) | (with_reducible refine Kd.C_drewN ?_ _) | (with_reducible refine Kd.C_drew ?_))); (case side4 => exact (Kd.R_reads' HO_6.out).2.1); rintro e w102 ⟨rfl, hb⟩; refine ⟨_, rfl, ?_⟩; replace HO_6 := Aside0.mk (Kd.R_below t13_ hb); replace HO_10 := Aside0.mk (Kd.R_below t17_ hb); replace HO_302001 := Aside0.mk (Kd.R_below t18_ hb); replace HO326 := Aside0.mk (Kd.R_below t32_ hb); replace HO330 := Aside0.mk (Kd.R_below (by (with_reducible repeat (first | apply Kd.R_alloc | apply Kd.R_drewN | apply Kd.R_drew)); exact HO330.out) hb); replace HO333 := Aside0.mk (Kd.R_below (by (with_reducible repeat (first | apply Kd.R_alloc | apply Kd.R_drewN | apply Kd.R_drew)); exact HO333.out) hb); replace BK280 := bkN BK280 hb; replace BK301 := bkN BK301 hb; replace HB := Aside0.mk (below_step t8_ hb); (try clear hb); (try clear hb2); (try clear hk); (try clear hi)))
                              go_meet
                              case rel => exact ⟨_, (true), t10_, H', ⟨by have := HJ18.out; have := HJ55.out; first | omega | exact Nat.le_refl _⟩, ⟨by (try simp only [hl302001_55]); (with_reducible repeat (first | apply Kd.R_alloc | apply Kd.R_drewN | apply Kd.R_drew)); exact Kd.R_mono HO_10.out (fun _ hk => trivial)⟩, ⟨by (try simp only [hl302001_55]); (with_reducible repeat (first | apply Kd.R_alloc | apply Kd.R_drewN | apply Kd.R_drew)); exact Kd.R_mono HO_302001.out (fun _ hk => trivial)⟩, ⟨by (try simp only [hl302001_55]); (with_reducible repeat (first | refine blk_drewN ?_ _ | refine blk_drew ?_ | refine blk_alloc ?_ _)); exact BK280.out⟩, ⟨by (try simp only [hl302001_55]); (with_reducible repeat (first | refine blk_drewN ?_ _ | refine blk_drew ?_ | refine blk_alloc ?_ _)); exact BK301.out⟩, ⟨t8_⟩⟩
                          case rest =>
                            clear HC85
                            try clear c1
                            try clear c2
                            try clear p2
                            try clear c3
                            try clear c4
                            try clear c4b0
                            try clear c5
                            try clear c6
                            try clear c7
                            try clear c8
                            try clear c8b0
                            try clear c9
                            try clear c25
                            try clear c34
                            try clear c40
                            try clear c41
                            try clear c42
                            try clear c43
                            try clear c44
                            try clear c45
                            try clear c46
                            try clear c47
                            try clear c48
                            try clear c49
                            try clear c50
                            try clear c53
                            try clear c65
                            try clear c68
                            try clear c68b0
                            try clear c70
                            try clear c77
                            try clear c80
                            try clear c80b0
                            try clear c81
                            try clear c81b0
                            try clear c81b1
                            try clear c96
                            try clear hcz11_0
                            try clear hcz11_1
                            try clear hcz22_0
                            try clear hcz22_1
                            try clear hcz31_0
                            try clear hcz31_1
                            try clear hcz35_0
                            try clear hcz35_1
                            try clear hcz66_0
                            try clear hcz66_1
                            try clear hfz11_0
                            try clear hfz11_1
                            try clear hfz22_0
                            try clear hfz22_1
                            try clear hfz31_0
                            try clear hfz31_1
                            try clear hfz35_0
                            try clear hfz35_1
                            try clear hfz66_0
                            try clear hfz66_1
                            try clear p2
                            obtain ⟨kq, x110_84, rfl, HA, HJ84, HO_10, HO_302001, BK280, BK301, HB⟩ := hcut
                            have hl10_84 := (Kd.R_reads' HO_10.out).1
                            rw [hl10_84] at HO_10
                            (try simp only [hl10_84])
                            (try simp only [hl10_84] at BK280)
                            (try simp only [hl10_84] at BK301)
                            (try simp only [hl10_84] at HO_302001)
                            cases kq with
                            | zero => exact absurd HA.out (by simp [laws_FnExactMapDo.j2])
                            | succ kj84 =>
                              have H := HA.out
                              clear HA
                              simp only [laws_FnExactMapDo.j2] at H
                              by_cases c103 : x110_84 = true
                              · subst c103
                                have H1 : (none) = some r := by rw [if_pos rfl] at H; exact H
                                clear H
                                have H := H1
                                clear H1
                                exact absurd H (by simp)
                              · replace c103 := Bool.eq_false_iff.mpr c103
                                subst c103
                                have H1 : ((laws_heldPairS.f kj84 t322 1).bind fun t336 => (if t336 < 0 then (none) else (if t336 = t321 then (some true) else (none)))) = some r := by rw [if_neg (show ¬ (false = true) by decide)] at H; exact H
                                clear H
                                have H := H1
                                clear H1
                                replace H := Option.bind_eq_some_iff.mp H
                                obtain ⟨t336, A1040, H⟩ := H
                                replace H : (if t336 < 0 then (none) else (if t336 = t321 then (some true) else (none))) = some r := H
                                have A104 := Aside0.mk A1040
                                clear A1040
                                by_cases c105 : t336 < 0
                                · rw [if_pos c105] at H
                                  exact absurd H (by simp)
                                · rw [if_neg c105] at H
                                  have c105b0 : decide (t336 < 0) = false := decide_eq_false c105
                                  clear c105
                                  by_cases c106 : t336 = t321
                                  · rw [if_pos c106] at H
                                    have c106b0 : (t336 == t321) = true := beq_iff_eq.mpr c106
                                    have c106b1 : (t336 != t321) = false := bne_eq_false_iff_eq.mpr c106
                                    clear c106
                                    obtain rfl := Option.some.inj H
                                    go_wp2_with (first | ((with_reducible refine gate_callee (f := 50) rfl ?_); refine goesL_ (some 113) rfl rfl Try.func50 (by kernel_rfl) rfl #[.slice Ao86 t322.length co86, .int .i64 1] rfl t7_ ?_; (with_reducible refine (laws_heldPairS.calls kj84 _ _ t322 1 t336 _ ?side1 ?side2 A104.out).mono ?_); (case side1 => repeat (first | exact (Kd.R_reads' HO_10.out).2.2 | (with_reducible refine Kd.C_alloc ?_ _) | (with_reducible refine Kd.C_drewN ?_ _) | (with_reducible refine Kd.C_drew ?_))); (case side2 => exact (Kd.R_reads' HO_10.out).2.1); rintro e w107 ⟨rfl, hb⟩; refine ⟨_, rfl, ?_⟩; replace HO_10 := Aside0.mk (Kd.R_below t17_ hb); replace HO_302001 := Aside0.mk (Kd.R_below t18_ hb); replace BK280 := bkN BK280 hb; replace BK301 := bkN BK301 hb; replace HB := Aside0.mk (below_step t8_ hb); (try clear hb); (try clear hb2); (try clear hk); (try clear hi)))
                                    go_ret
                                    exact ⟨by first | rfl | (simp [errW_none, errW_some] <;> rfl) | (simp [*, errW_none, errW_some] <;> rfl), t8_⟩
                                  · rw [if_neg c106] at H
                                    exact absurd H (by simp)
                        · rw [if_neg c81] at H
                          exact absurd H (by simp)
              · replace c53 := Bool.eq_false_iff.mpr c53
                subst c53
                have H1 : (none) = some r := by rw [if_neg (show ¬ (false = true) by decide)] at H; exact H
                clear H
                have H := H1
                clear H1
                exact absurd H (by simp)
            · replace c50 := Bool.eq_false_iff.mpr c50
              subst c50
              have H1 : (none) = some r := by rw [if_neg (show ¬ (false = true) by decide)] at H; exact H
              clear H
              have H := H1
              clear H1
              exact absurd H (by simp)

end Go.Proofs.Ytpjhbhjmaggheaa.QFnExactMapDo
