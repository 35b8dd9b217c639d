-- By a program of this session, over the kit's print.
import Derived.Test.YtpjhbhjmaggheaaQFnExactPutRawx0
import Derived.Test.YtpjhbhjmaggheaaQFnExactPutRawx1
import Derived.Test.YtpjhbhjmaggheaaQFnExactPutRawx2
import Derived.Test.YtpjhbhjmaggheaaQFnExactPutRawx5
import Derived.Test.YtpjhbhjmaggheaaQFnExactPutRawx6
import Derived.Test.YtpjhbhjmaggheaaQFnExactPutRawx8
namespace Go.Proofs.Ytpjhbhjmaggheaa.QFnExactPutRaw
open Go.RowKit Go.Proofs.YtpjhbhjmaggheaaW.PrintWords Go.Proofs.YtpjhbhjmaggheaaW.PrintLast Go.Proofs.YtpjhbhjmaggheaaW.PrintMore
attribute [local go_sem] max2_int min2_int max_two min_two max_three min_three max_four min_four   -- for this text's walks alone
set_option linter.unusedVariables false
set_option linter.unusedSimpArgs false

/-! ### laws_FnExactPutRaw: function 6 -/
mutual
def laws_FnExactPutRaw.j0 : Nat → Bool → Bool → Bool → List (S136) → Int → ByteArray → ByteArray → ByteArray → List (S71) → List (S71) → List (S71) → Option (Bool)
  | 0, _, _, _, _, _, _, _, _, _, _, _ => none
  | k + 1, x7, x10, x51, x297000, x298000, x298001, x298002, x298003, x312000, x316000, x325000 => if x51 = true then (none) else ((laws_toDisk.f k x297000).bind fun t326 => ((laws_eqDisk.f k x316000 t326).bind fun t329 => (if t329 = true then ((laws_markDisk.f k x316000 1).bind fun bt330 => (if bt330.1 < 0 then (laws_FnExactPutRaw.j1 k x7 true x297000 x298000 x298001 x298002 x298003 x312000 x325000) else ((laws_eqDisk.f k x325000 x312000).bind fun t332 => (if t332 = true then (laws_FnExactPutRaw.j1 k x7 (x10 != x7) x297000 x298000 x298001 x298002 x298003 x312000 x325000) else (laws_FnExactPutRaw.j1 k x7 true x297000 x298000 x298001 x298002 x298003 x312000 x325000))))) else (none))))
def laws_FnExactPutRaw.j1 : Nat → Bool → Bool → List (S136) → Int → ByteArray → ByteArray → ByteArray → List (S71) → List (S71) → Option (Bool)
  | 0, _, _, _, _, _, _, _, _, _ => none
  | k + 1, x7, x72, x297000, x298000, x298001, x298002, x298003, x312000, x325000 => if x72 = true then (none) else ((laws_markDisk.f k x325000 1).bind fun bt333 => ((laws_heldDisk.f k bt333.2 1).bind fun t335 => (if t335 < 0 then (none) else (if t335 = bt333.1 then ((laws_toDisk.f k x297000).bind fun t336 => ((laws_toRaw.f x298000 x298001 x298002 x298003).bind fun bt339 => ((impl_PutRaw.f k t336 bt339.1 bt339.2.1 bt339.2.2.1 bt339.2.2.2).bind fun bt343 => ((laws_eqDisk.f k bt343.1 x312000).bind fun t348 => (if t348 = true then (laws_FnExactPutRaw.j2 k bt333.1 (bt343.2 != x7) bt333.2) else (laws_FnExactPutRaw.j2 k bt333.1 true bt333.2)))))) else (none)))))
def laws_FnExactPutRaw.j2 : Nat → Int → Bool → List (S71) → Option (Bool)
  | 0, _, _, _ => none
  | k + 1, x12, x100, x325000 => if x100 = true then (none) else ((laws_heldDisk.f k x325000 1).bind fun t349 => (if t349 < 0 then (none) else (if t349 = x12 then (some true) else (none))))
end
def laws_FnExactPutRaw.f (k : Nat) (l0_0 : List (S136)) (a1_0 : Int) (a1_1 : ByteArray) (a1_2 : ByteArray) (a1_3 : ByteArray) : Option (Bool) := (laws_szDisk.f k l0_0 1048576).bind fun t298 => (if t298 < 0 then (some true) else ((laws_szRaw.f a1_0 a1_1 a1_2 a1_3 t298).bind fun t299 => (if t299 < 0 then (some true) else ((laws_toDisk.f k l0_0).bind fun t300 => ((laws_toRaw.f a1_0 a1_1 a1_2 a1_3).bind fun bt303 => ((spec_PutRaw.f k t300 bt303.1 bt303.2.1 bt303.2.2.1 bt303.2.2.2).bind fun bt307 => ((laws_toDisk.f k l0_0).bind fun t312 => ((laws_toRaw.f a1_0 a1_1 a1_2 a1_3).bind fun bt316 => ((impl_PutRaw.f k t312 bt316.1 bt316.2.1 bt316.2.2.1 bt316.2.2.2).bind fun bt320 => ((laws_eqDisk.f k bt320.1 bt307.1).bind fun t325 => (if t325 = true then (laws_FnExactPutRaw.j0 k bt307.2 bt320.2 (bt320.2 != bt307.2) l0_0 a1_0 a1_1 a1_2 a1_3 bt307.1 t312 bt320.1) else (laws_FnExactPutRaw.j0 k bt307.2 bt320.2 true l0_0 a1_0 a1_1 a1_2 a1_3 bt307.1 t312 bt320.1))))))))))))
theorem laws_FnExactPutRaw.mono_l : ∀ k, (∀ y0 y1 y2 y3 y4 y5 y6 y7 y8 y9 y10, LeO (laws_FnExactPutRaw.j0 k y0 y1 y2 y3 y4 y5 y6 y7 y8 y9 y10) (laws_FnExactPutRaw.j0 (k + 1) y0 y1 y2 y3 y4 y5 y6 y7 y8 y9 y10)) ∧ (∀ y0 y1 y2 y3 y4 y5 y6 y7 y8, LeO (laws_FnExactPutRaw.j1 k y0 y1 y2 y3 y4 y5 y6 y7 y8) (laws_FnExactPutRaw.j1 (k + 1) y0 y1 y2 y3 y4 y5 y6 y7 y8)) ∧ (∀ y0 y1 y2, LeO (laws_FnExactPutRaw.j2 k y0 y1 y2) (laws_FnExactPutRaw.j2 (k + 1) y0 y1 y2))
  | 0 => ⟨fun _ _ _ _ _ _ _ _ _ _ _ r h => by simp [laws_FnExactPutRaw.j0] at h, fun _ _ _ _ _ _ _ _ _ r h => by simp [laws_FnExactPutRaw.j1] at h, fun _ _ _ r h => by simp [laws_FnExactPutRaw.j2] at h⟩
  | k + 1 => by
    obtain ⟨ih0, ih1, ih2⟩ := laws_FnExactPutRaw.mono_l k
    refine ⟨?_, ?_, ?_⟩
    · intro y0 y1 y2 y3 y4 y5 y6 y7 y8 y9 y10
      unfold laws_FnExactPutRaw.j0
      repeat' first
      | (with_reducible exact ih0 _ _ _ _ _ _ _ _ _ _ _)
      | (with_reducible exact ih1 _ _ _ _ _ _ _ _ _)
      | (with_reducible exact ih2 _ _ _)
      | (with_reducible exact impl_PutRaw.mono _ _ _ _ _ _)
      | (with_reducible exact laws_eqDisk.mono _ _ _)
      | (with_reducible exact laws_heldDisk.mono _ _ _)
      | (with_reducible exact laws_markDisk.mono _ _ _)
      | (with_reducible exact laws_szDisk.mono _ _ _)
      | (with_reducible exact laws_toDisk.mono _ _)
      | (with_reducible exact spec_PutRaw.mono _ _ _ _ _ _)
      | (with_reducible exact LeO.refl _)
      | (with_reducible exact LeO.none _)
      | (with_reducible refine LeO.ite ?_ ?_)
      | (with_reducible refine LeO.bind ?_ (fun _ => ?_))
      | exact ih0 _ _ _ _ _ _ _ _ _ _ _
      | exact ih1 _ _ _ _ _ _ _ _ _
      | exact ih2 _ _ _
      | exact impl_PutRaw.mono _ _ _ _ _ _
      | exact laws_eqDisk.mono _ _ _
      | exact laws_heldDisk.mono _ _ _
      | exact laws_markDisk.mono _ _ _
      | exact laws_szDisk.mono _ _ _
      | exact laws_toDisk.mono _ _
      | exact spec_PutRaw.mono _ _ _ _ _ _
      | exact LeO.none _
      | refine LeO.ite ?_ ?_
      | refine LeO.bind ?_ (fun _ => ?_)
    · intro y0 y1 y2 y3 y4 y5 y6 y7 y8
      unfold laws_FnExactPutRaw.j1
      repeat' first
      | (with_reducible exact ih0 _ _ _ _ _ _ _ _ _ _ _)
      | (with_reducible exact ih1 _ _ _ _ _ _ _ _ _)
      | (with_reducible exact ih2 _ _ _)
      | (with_reducible exact impl_PutRaw.mono _ _ _ _ _ _)
      | (with_reducible exact laws_eqDisk.mono _ _ _)
      | (with_reducible exact laws_heldDisk.mono _ _ _)
      | (with_reducible exact laws_markDisk.mono _ _ _)
      | (with_reducible exact laws_szDisk.mono _ _ _)
      | (with_reducible exact laws_toDisk.mono _ _)
      | (with_reducible exact spec_PutRaw.mono _ _ _ _ _ _)
      | (with_reducible exact LeO.refl _)
      | (with_reducible exact LeO.none _)
      | (with_reducible refine LeO.ite ?_ ?_)
      | (with_reducible refine LeO.bind ?_ (fun _ => ?_))
      | exact ih0 _ _ _ _ _ _ _ _ _ _ _
      | exact ih1 _ _ _ _ _ _ _ _ _
      | exact ih2 _ _ _
      | exact impl_PutRaw.mono _ _ _ _ _ _
      | exact laws_eqDisk.mono _ _ _
      | exact laws_heldDisk.mono _ _ _
      | exact laws_markDisk.mono _ _ _
      | exact laws_szDisk.mono _ _ _
      | exact laws_toDisk.mono _ _
      | exact spec_PutRaw.mono _ _ _ _ _ _
      | exact LeO.none _
      | refine LeO.ite ?_ ?_
      | refine LeO.bind ?_ (fun _ => ?_)
    · intro y0 y1 y2
      unfold laws_FnExactPutRaw.j2
      repeat' first
      | (with_reducible exact ih0 _ _ _ _ _ _ _ _ _ _ _)
      | (with_reducible exact ih1 _ _ _ _ _ _ _ _ _)
      | (with_reducible exact ih2 _ _ _)
      | (with_reducible exact impl_PutRaw.mono _ _ _ _ _ _)
      | (with_reducible exact laws_eqDisk.mono _ _ _)
      | (with_reducible exact laws_heldDisk.mono _ _ _)
      | (with_reducible exact laws_markDisk.mono _ _ _)
      | (with_reducible exact laws_szDisk.mono _ _ _)
      | (with_reducible exact laws_toDisk.mono _ _)
      | (with_reducible exact spec_PutRaw.mono _ _ _ _ _ _)
      | (with_reducible exact LeO.refl _)
      | (with_reducible exact LeO.none _)
      | (with_reducible refine LeO.ite ?_ ?_)
      | (with_reducible refine LeO.bind ?_ (fun _ => ?_))
      | exact ih0 _ _ _ _ _ _ _ _ _ _ _
      | exact ih1 _ _ _ _ _ _ _ _ _
      | exact ih2 _ _ _
      | exact impl_PutRaw.mono _ _ _ _ _ _
      | exact laws_eqDisk.mono _ _ _
      | exact laws_heldDisk.mono _ _ _
      | exact laws_markDisk.mono _ _ _
      | exact laws_szDisk.mono _ _ _
      | exact laws_toDisk.mono _ _
      | exact spec_PutRaw.mono _ _ _ _ _ _
      | exact LeO.none _
      | refine LeO.ite ?_ ?_
      | refine LeO.bind ?_ (fun _ => ?_)
theorem laws_FnExactPutRaw.mono : ∀ a0 a1 a2 a3 a4 k, LeO (laws_FnExactPutRaw.f k a0 a1 a2 a3 a4) (laws_FnExactPutRaw.f (k + 1) a0 a1 a2 a3 a4) := by
  intro a0 a1 a2 a3 a4 k
  obtain ⟨ih0, ih1, ih2⟩ := laws_FnExactPutRaw.mono_l k
  unfold laws_FnExactPutRaw.f
  repeat' first
      | (with_reducible exact ih0 _ _ _ _ _ _ _ _ _ _ _)
      | (with_reducible exact ih1 _ _ _ _ _ _ _ _ _)
      | (with_reducible exact ih2 _ _ _)
      | (with_reducible exact impl_PutRaw.mono _ _ _ _ _ _)
      | (with_reducible exact laws_eqDisk.mono _ _ _)
      | (with_reducible exact laws_heldDisk.mono _ _ _)
      | (with_reducible exact laws_markDisk.mono _ _ _)
      | (with_reducible exact laws_szDisk.mono _ _ _)
      | (with_reducible exact laws_toDisk.mono _ _)
      | (with_reducible exact spec_PutRaw.mono _ _ _ _ _ _)
      | (with_reducible exact LeO.refl _)
      | (with_reducible exact LeO.none _)
      | (with_reducible refine LeO.ite ?_ ?_)
      | (with_reducible refine LeO.bind ?_ (fun _ => ?_))
      | exact ih0 _ _ _ _ _ _ _ _ _ _ _
      | exact ih1 _ _ _ _ _ _ _ _ _
      | exact ih2 _ _ _
      | exact impl_PutRaw.mono _ _ _ _ _ _
      | exact laws_eqDisk.mono _ _ _
      | exact laws_heldDisk.mono _ _ _
      | exact laws_markDisk.mono _ _ _
      | exact laws_szDisk.mono _ _ _
      | exact laws_toDisk.mono _ _
      | exact spec_PutRaw.mono _ _ _ _ _ _
      | exact LeO.none _
      | refine LeO.ite ?_ ?_
      | refine LeO.bind ?_ (fun _ => ?_)
def laws_FnExactPutRaw.T8 : Bool × List (List Nat × List Nat) := (true, [([], []), ([0], [0]), ([], []), ([2, 1], [2]), ([1, 3, 3], [1, 3]), ([4], [4]), ([5], [5]), ([5], [5]), ([], []), ([8, 6, 4, 0, 1, 2, 3, 4, 5, 6, 8], [6, 8]), ([7, 9, 0, 1, 2, 3, 4, 5, 6, 7, 8, 9], [7])])
def laws_FnExactPutRaw.B8 : List Nat := [0, 1, 0, 7, 15, 31, 63, 63, 0, 383, 1023]
theorem laws_FnExactPutRaw.tab8 : rtab .any (opsOf Try.f6 8) = laws_FnExactPutRaw.T8 := by kernel_rfl
theorem laws_FnExactPutRaw.bits8 : waitsOk laws_FnExactPutRaw.T8.2 laws_FnExactPutRaw.B8 = true := by kernel_rfl
def laws_FnExactPutRaw.T10 : Bool × List (List Nat × List Nat) := (true, [([], []), ([], []), ([1], [1]), ([0, 2, 2], [0, 2]), ([3], [3]), ([4], [4]), ([4], [4]), ([], []), ([7, 5, 3, 0, 1, 2, 3, 4, 5, 7], [5, 7]), ([6, 8, 0, 1, 2, 3, 4, 5, 6, 7, 8], [6])])
def laws_FnExactPutRaw.B10 : List Nat := [0, 0, 2, 7, 15, 31, 31, 0, 191, 511]
theorem laws_FnExactPutRaw.tab10 : rtab .any (opsOf Try.f6 10) = laws_FnExactPutRaw.T10 := by kernel_rfl
theorem laws_FnExactPutRaw.bits10 : waitsOk laws_FnExactPutRaw.T10.2 laws_FnExactPutRaw.B10 = true := by kernel_rfl
def laws_FnExactPutRaw.T27 : Bool × List (List Nat × List Nat) := (true, [([], []), ([0], [0]), ([], []), ([2, 1], [2]), ([1, 3, 3], [1, 3]), ([4], [4]), ([5], [5]), ([5], [5]), ([], []), ([8, 6, 4, 0, 1, 2, 3, 4, 5, 6, 8], [6, 8]), ([7, 9, 0, 1, 2, 3, 4, 5, 6, 7, 8, 9], [7])])
def laws_FnExactPutRaw.B27 : List Nat := [0, 1, 0, 7, 15, 31, 63, 63, 0, 383, 1023]
theorem laws_FnExactPutRaw.tab27 : rtab .any (opsOf Try.f6 27) = laws_FnExactPutRaw.T27 := by kernel_rfl
theorem laws_FnExactPutRaw.bits27 : waitsOk laws_FnExactPutRaw.T27.2 laws_FnExactPutRaw.B27 = true := by kernel_rfl
set_option maxHeartbeats 8000000 in
set_option maxRecDepth 100000 in
theorem laws_FnExactPutRaw.calls (k : Nat) (A0_0 : Option Addr) (c0_0 : Nat) (l0_0 : List (S136)) (a1_0 : Int) (a1_1 : ByteArray) (a1_2 : ByteArray) (a1_3 : ByteArray) (r : Bool) (w : World) (hr0_0 : Kd.C k136 w A0_0 l0_0.length l0_0) (hc0_0 : l0_0.length ≤ c0_0) (h : laws_FnExactPutRaw.f k l0_0 a1_0 a1_1 a1_2 a1_3 = some r) :
    Calls Try.prog 6 #[.agg #[.slice A0_0 l0_0.length c0_0], .agg #[.int .i64 a1_0, .string a1_1, .string a1_2, .string a1_3]] w fun e w' => e = .returned (.bool r) ∧ Below w.heap.size w w' := by
  have hu24 := Try.underlying24
  have hu73 := Try.underlying73
  have hu30 := Try.underlying30
  have HR0_0 := Aside0.mk hr0_0
  have HC0_0 := Aside0.mk hc0_0
  clear hr0_0 hc0_0
  have HB := Aside0.mk (Below.refl w.heap.size w)
  have H : ((laws_szDisk.f k l0_0 1048576).bind fun t298 => (if t298 < 0 then (some true) else ((laws_szRaw.f a1_0 a1_1 a1_2 a1_3 t298).bind fun t299 => (if t299 < 0 then (some true) else ((laws_toDisk.f k l0_0).bind fun t300 => ((laws_toRaw.f a1_0 a1_1 a1_2 a1_3).bind fun bt303 => ((spec_PutRaw.f k t300 bt303.1 bt303.2.1 bt303.2.2.1 bt303.2.2.2).bind fun bt307 => ((laws_toDisk.f k l0_0).bind fun t312 => ((laws_toRaw.f a1_0 a1_1 a1_2 a1_3).bind fun bt316 => ((impl_PutRaw.f k t312 bt316.1 bt316.2.1 bt316.2.2.1 bt316.2.2.2).bind fun bt320 => ((laws_eqDisk.f k bt320.1 bt307.1).bind fun t325 => (if t325 = true then (laws_FnExactPutRaw.j0 k bt307.2 bt320.2 (bt320.2 != bt307.2) l0_0 a1_0 a1_1 a1_2 a1_3 bt307.1 t312 bt320.1) else (laws_FnExactPutRaw.j0 k bt307.2 bt320.2 true l0_0 a1_0 a1_1 a1_2 a1_3 bt307.1 t312 bt320.1))))))))))))) = some r := h
  clear h
  replace H := Option.bind_eq_some_iff.mp H
  obtain ⟨t298, A30, H⟩ := H
  replace H : (if t298 < 0 then (some true) else ((laws_szRaw.f a1_0 a1_1 a1_2 a1_3 t298).bind fun t299 => (if t299 < 0 then (some true) else ((laws_toDisk.f k l0_0).bind fun t300 => ((laws_toRaw.f a1_0 a1_1 a1_2 a1_3).bind fun bt303 => ((spec_PutRaw.f k t300 bt303.1 bt303.2.1 bt303.2.2.1 bt303.2.2.2).bind fun bt307 => ((laws_toDisk.f k l0_0).bind fun t312 => ((laws_toRaw.f a1_0 a1_1 a1_2 a1_3).bind fun bt316 => ((impl_PutRaw.f k t312 bt316.1 bt316.2.1 bt316.2.2.1 bt316.2.2.2).bind fun bt320 => ((laws_eqDisk.f k bt320.1 bt307.1).bind fun t325 => (if t325 = true then (laws_FnExactPutRaw.j0 k bt307.2 bt320.2 (bt320.2 != bt307.2) l0_0 a1_0 a1_1 a1_2 a1_3 bt307.1 t312 bt320.1) else (laws_FnExactPutRaw.j0 k bt307.2 bt320.2 true l0_0 a1_0 a1_1 a1_2 a1_3 bt307.1 t312 bt320.1)))))))))))) = some r := H
  have A3 := Aside0.mk A30
  clear A30
  by_cases c4 : t298 < 0
  · rw [if_pos c4] at H
    have c4b0 : decide (t298 < 0) = true := decide_eq_true c4
    clear c4
    obtain rfl := Option.some.inj H
    go_enter Try.func6, Try.ntmps6
    go_wp2_with (first | ((with_reducible refine gate_dst (N := 2) rfl ?_); refine boxE (N := 2) (cs := #[.slice A0_0 l0_0.length c0_0]) (t := 24) (h := ?_); intro gb296 hg w5 hbox hb; have BK296 := Aside0.mk (hbox); have GW296 := Aside0.mk ((t4_ : w.heap.size ≤ gb296)); have GE296 := Aside0.mk ((t4_ : w.heap.size ≤ gb296)); replace HB := Aside0.mk (below_step t0_ hb); clear hb hbox hg) | ((with_reducible refine gate_dst (N := 3) rfl ?_); refine boxE (N := 3) (cs := #[.int .i64 a1_0, .string a1_1, .string a1_2, .string a1_3]) (t := 73) (h := ?_); intro gb297 hg w6 hbox hb; have BK297 := Aside0.mk (hbox); have GW297 := Aside0.mk ((t50_ : w.heap.size ≤ gb297)); have GE297 := Aside0.mk ((t50_ : w.heap.size ≤ gb297)); replace HB := Aside0.mk (below_step t37_ hb); have NB296_297 := nbL BK296 hg; have NB297_296 := nbG BK296 hg; replace BK296 := bkN BK296 hb; clear hb hbox hg; have hnb7 := NB296_297.out; have hnc7 := NB297_296.out; have hcz8_0 := bc0 BK296; have hfz8_0 := bf BK296 0) | ((with_reducible refine gate_callee (f := 11) rfl ?_); refine goesL_ (some 18) rfl rfl Try.func11 (by kernel_rfl) rfl #[.agg #[.slice A0_0 l0_0.length c0_0], .int .i64 1048576] rfl t2_ ?_; (with_reducible refine (laws_szDisk.calls k _ _ l0_0 1048576 t298 _ ?side1 ?side2 A3.out).mono ?_); (case side1 => exact cB HR0_0 HB); (case side2 => exact HC0_0.out); rintro e w9 ⟨rfl, hb⟩; refine ⟨_, rfl, ?_⟩; replace BK296 := bkN BK296 hb; replace BK297 := bkN BK297 hb; replace HB := Aside0.mk (below_step t18_ hb); (try clear hb); (try clear hb2); (try clear hk); (try clear hi)))
    go_ret
    exact ⟨by first | rfl | (simp [errW_none, errW_some] <;> rfl) | (simp [*, errW_none, errW_some] <;> rfl), t18_⟩
  · rw [if_neg c4] at H
    have c4b0 : decide (t298 < 0) = false := decide_eq_false c4
    clear c4
    replace H := Option.bind_eq_some_iff.mp H
    obtain ⟨t299, A100, H⟩ := H
    replace H : (if t299 < 0 then (some true) else ((laws_toDisk.f k l0_0).bind fun t300 => ((laws_toRaw.f a1_0 a1_1 a1_2 a1_3).bind fun bt303 => ((spec_PutRaw.f k t300 bt303.1 bt303.2.1 bt303.2.2.1 bt303.2.2.2).bind fun bt307 => ((laws_toDisk.f k l0_0).bind fun t312 => ((laws_toRaw.f a1_0 a1_1 a1_2 a1_3).bind fun bt316 => ((impl_PutRaw.f k t312 bt316.1 bt316.2.1 bt316.2.2.1 bt316.2.2.2).bind fun bt320 => ((laws_eqDisk.f k bt320.1 bt307.1).bind fun t325 => (if t325 = true then (laws_FnExactPutRaw.j0 k bt307.2 bt320.2 (bt320.2 != bt307.2) l0_0 a1_0 a1_1 a1_2 a1_3 bt307.1 t312 bt320.1) else (laws_FnExactPutRaw.j0 k bt307.2 bt320.2 true l0_0 a1_0 a1_1 a1_2 a1_3 bt307.1 t312 bt320.1)))))))))) = some r := H
    have A10 := Aside0.mk A100
    clear A100
    by_cases c11 : t299 < 0
    · rw [if_pos c11] at H
      have c11b0 : decide (t299 < 0) = true := decide_eq_true c11
      clear c11
      obtain rfl := Option.some.inj H
      go_enter Try.func6, Try.ntmps6
      go_wp2_with (first | ((with_reducible refine gate_dst (N := 2) rfl ?_); refine boxE (N := 2) (cs := #[.slice A0_0 l0_0.length c0_0]) (t := 24) (h := ?_); intro gb296 hg w12 hbox hb; have BK296 := Aside0.mk (hbox); have GW296 := Aside0.mk ((t4_ : w.heap.size ≤ gb296)); have GE296 := Aside0.mk ((t4_ : w.heap.size ≤ gb296)); replace HB := Aside0.mk (below_step t0_ hb); clear hb hbox hg) | ((with_reducible refine gate_dst (N := 3) rfl ?_); refine boxE (N := 3) (cs := #[.int .i64 a1_0, .string a1_1, .string a1_2, .string a1_3]) (t := 73) (h := ?_); intro gb297 hg w13 hbox hb; have BK297 := Aside0.mk (hbox); have GW297 := Aside0.mk ((t50_ : w.heap.size ≤ gb297)); have GE297 := Aside0.mk ((t50_ : w.heap.size ≤ gb297)); replace HB := Aside0.mk (below_step t37_ hb); have NB296_297 := nbL BK296 hg; have NB297_296 := nbG BK296 hg; replace BK296 := bkN BK296 hb; clear hb hbox hg; have hnb14 := NB296_297.out; have hnc14 := NB297_296.out; have hcz15_0 := bc0 BK296; have hfz15_0 := bf BK296 0) | ((with_reducible refine gate_callee (f := 11) rfl ?_); refine goesL_ (some 18) rfl rfl Try.func11 (by kernel_rfl) rfl #[.agg #[.slice A0_0 l0_0.length c0_0], .int .i64 1048576] rfl t2_ ?_; (with_reducible refine (laws_szDisk.calls k _ _ l0_0 1048576 t298 _ ?side1 ?side2 A3.out).mono ?_); (case side1 => exact cB HR0_0 HB); (case side2 => exact HC0_0.out); rintro e w16 ⟨rfl, hb⟩; refine ⟨_, rfl, ?_⟩; replace BK296 := bkN BK296 hb; replace BK297 := bkN BK297 hb; replace HB := Aside0.mk (below_step t18_ hb); (try clear hb); (try clear hb2); (try clear hk); (try clear hi); have hcz17_0 := bc0 BK297; have hcz17_1 := bc1 BK297; have hcz17_2 := bc2 BK297; have hcz17_3 := bc3 BK297; have hfz17_0 := bf BK297 0; have hfz17_1 := bf BK297 1; have hfz17_2 := bf BK297 2; have hfz17_3 := bf BK297 3) | ((with_reducible refine gate_callee (f := 35) rfl ?_); refine goesL_ (some 23) rfl rfl Try.func35 (by kernel_rfl) rfl #[.agg #[.int .i64 a1_0, .string a1_1, .string a1_2, .string a1_3], .int .i64 t298] rfl t2_ ?_; (with_reducible refine (laws_szRaw.calls a1_0 a1_1 a1_2 a1_3 t298 t299 _ A10.out).mono ?_); rintro e w18 ⟨rfl, hb⟩; refine ⟨_, rfl, ?_⟩; replace BK296 := bkN BK296 hb; replace BK297 := bkN BK297 hb; replace HB := Aside0.mk (below_step t18_ hb); (try clear hb); (try clear hb2); (try clear hk); (try clear hi)))
      go_ret
      exact ⟨by first | rfl | (simp [errW_none, errW_some] <;> rfl) | (simp [*, errW_none, errW_some] <;> rfl), t18_⟩
    · rw [if_neg c11] at H
      have c11b0 : decide (t299 < 0) = false := decide_eq_false c11
      clear c11
      replace H := Option.bind_eq_some_iff.mp H
      obtain ⟨t300, A190, H⟩ := H
      replace H : ((laws_toRaw.f a1_0 a1_1 a1_2 a1_3).bind fun bt303 => ((spec_PutRaw.f k t300 bt303.1 bt303.2.1 bt303.2.2.1 bt303.2.2.2).bind fun bt307 => ((laws_toDisk.f k l0_0).bind fun t312 => ((laws_toRaw.f a1_0 a1_1 a1_2 a1_3).bind fun bt316 => ((impl_PutRaw.f k t312 bt316.1 bt316.2.1 bt316.2.2.1 bt316.2.2.2).bind fun bt320 => ((laws_eqDisk.f k bt320.1 bt307.1).bind fun t325 => (if t325 = true then (laws_FnExactPutRaw.j0 k bt307.2 bt320.2 (bt320.2 != bt307.2) l0_0 a1_0 a1_1 a1_2 a1_3 bt307.1 t312 bt320.1) else (laws_FnExactPutRaw.j0 k bt307.2 bt320.2 true l0_0 a1_0 a1_1 a1_2 a1_3 bt307.1 t312 bt320.1)))))))) = some r := H
      have A19 := Aside0.mk A190
      clear A190
      replace H := Option.bind_eq_some_iff.mp H
      obtain ⟨⟨t303, t304, t305, t306⟩, A200, H⟩ := H
      replace H : ((spec_PutRaw.f k t300 t303 t304 t305 t306).bind fun bt307 => ((laws_toDisk.f k l0_0).bind fun t312 => ((laws_toRaw.f a1_0 a1_1 a1_2 a1_3).bind fun bt316 => ((impl_PutRaw.f k t312 bt316.1 bt316.2.1 bt316.2.2.1 bt316.2.2.2).bind fun bt320 => ((laws_eqDisk.f k bt320.1 bt307.1).bind fun t325 => (if t325 = true then (laws_FnExactPutRaw.j0 k bt307.2 bt320.2 (bt320.2 != bt307.2) l0_0 a1_0 a1_1 a1_2 a1_3 bt307.1 t312 bt320.1) else (laws_FnExactPutRaw.j0 k bt307.2 bt320.2 true l0_0 a1_0 a1_1 a1_2 a1_3 bt307.1 t312 bt320.1))))))) = some r := H
      have A20 := Aside0.mk A200
      clear A200
      replace H := Option.bind_eq_some_iff.mp H
      obtain ⟨⟨t307, t310⟩, A210, H⟩ := H
      replace H : ((laws_toDisk.f k l0_0).bind fun t312 => ((laws_toRaw.f a1_0 a1_1 a1_2 a1_3).bind fun bt316 => ((impl_PutRaw.f k t312 bt316.1 bt316.2.1 bt316.2.2.1 bt316.2.2.2).bind fun bt320 => ((laws_eqDisk.f k bt320.1 t307).bind fun t325 => (if t325 = true then (laws_FnExactPutRaw.j0 k t310 bt320.2 (bt320.2 != t310) l0_0 a1_0 a1_1 a1_2 a1_3 t307 t312 bt320.1) else (laws_FnExactPutRaw.j0 k t310 bt320.2 true l0_0 a1_0 a1_1 a1_2 a1_3 t307 t312 bt320.1)))))) = some r := H
      have A21 := Aside0.mk A210
      clear A210
      replace H := Option.bind_eq_some_iff.mp H
      obtain ⟨t312, A220, H⟩ := H
      replace H : ((laws_toRaw.f a1_0 a1_1 a1_2 a1_3).bind fun bt316 => ((impl_PutRaw.f k t312 bt316.1 bt316.2.1 bt316.2.2.1 bt316.2.2.2).bind fun bt320 => ((laws_eqDisk.f k bt320.1 t307).bind fun t325 => (if t325 = true then (laws_FnExactPutRaw.j0 k t310 bt320.2 (bt320.2 != t310) l0_0 a1_0 a1_1 a1_2 a1_3 t307 t312 bt320.1) else (laws_FnExactPutRaw.j0 k t310 bt320.2 true l0_0 a1_0 a1_1 a1_2 a1_3 t307 t312 bt320.1))))) = some r := H
      have A22 := Aside0.mk A220
      clear A220
      replace H := Option.bind_eq_some_iff.mp H
      obtain ⟨⟨t316, t317, t318, t319⟩, A230, H⟩ := H
      replace H : ((impl_PutRaw.f k t312 t316 t317 t318 t319).bind fun bt320 => ((laws_eqDisk.f k bt320.1 t307).bind fun t325 => (if t325 = true then (laws_FnExactPutRaw.j0 k t310 bt320.2 (bt320.2 != t310) l0_0 a1_0 a1_1 a1_2 a1_3 t307 t312 bt320.1) else (laws_FnExactPutRaw.j0 k t310 bt320.2 true l0_0 a1_0 a1_1 a1_2 a1_3 t307 t312 bt320.1)))) = some r := H
      have A23 := Aside0.mk A230
      clear A230
      replace H := Option.bind_eq_some_iff.mp H
      obtain ⟨⟨t320, t323⟩, A240, H⟩ := H
      replace H : ((laws_eqDisk.f k t320 t307).bind fun t325 => (if t325 = true then (laws_FnExactPutRaw.j0 k t310 t323 (t323 != t310) l0_0 a1_0 a1_1 a1_2 a1_3 t307 t312 t320) else (laws_FnExactPutRaw.j0 k t310 t323 true l0_0 a1_0 a1_1 a1_2 a1_3 t307 t312 t320))) = some r := H
      have A24 := Aside0.mk A240
      clear A240
      have HC25 := Aside0.mk H
      clear H
      go_enter Try.func6, Try.ntmps6
      try go_wp2_with (first | ((with_reducible refine gate_dst (N := 2) rfl ?_); refine boxE (N := 2) (cs := #[.slice A0_0 l0_0.length c0_0]) (t := 24) (h := ?_); intro gb296 hg w26 hbox hb; have BK296 := Aside0.mk (hbox); have GW296 := Aside0.mk ((t4_ : w.heap.size ≤ gb296)); have GE296 := Aside0.mk ((t4_ : w.heap.size ≤ gb296)); replace HB := Aside0.mk (below_step t0_ hb); clear hb hbox hg) | ((with_reducible refine gate_dst (N := 3) rfl ?_); refine boxE (N := 3) (cs := #[.int .i64 a1_0, .string a1_1, .string a1_2, .string a1_3]) (t := 73) (h := ?_); intro gb297 hg w27 hbox hb; have BK297 := Aside0.mk (hbox); have GW297 := Aside0.mk ((t50_ : w.heap.size ≤ gb297)); have GE297 := Aside0.mk ((t50_ : w.heap.size ≤ gb297)); replace HB := Aside0.mk (below_step t37_ hb); have NB296_297 := nbL BK296 hg; have NB297_296 := nbG BK296 hg; replace BK296 := bkN BK296 hb; clear hb hbox hg; have hnb28 := NB296_297.out; have hnc28 := NB297_296.out; have hcz29_0 := bc0 BK296; have hfz29_0 := bf BK296 0) | ((with_reducible refine gate_callee (f := 11) rfl ?_); refine goesL_ (some 18) rfl rfl Try.func11 (by kernel_rfl) rfl #[.agg #[.slice A0_0 l0_0.length c0_0], .int .i64 1048576] rfl t2_ ?_; (with_reducible refine (laws_szDisk.calls k _ _ l0_0 1048576 t298 _ ?side1 ?side2 A3.out).mono ?_); (case side1 => exact cB HR0_0 HB); (case side2 => exact HC0_0.out); rintro e w30 ⟨rfl, hb⟩; refine ⟨_, rfl, ?_⟩; replace BK296 := bkN BK296 hb; replace BK297 := bkN BK297 hb; replace HB := Aside0.mk (below_step t18_ hb); (try clear hb); (try clear hb2); (try clear hk); (try clear hi); have hcz31_0 := bc0 BK297; have hcz31_1 := bc1 BK297; have hcz31_2 := bc2 BK297; have hcz31_3 := bc3 BK297; have hfz31_0 := bf BK297 0; have hfz31_1 := bf BK297 1; have hfz31_2 := bf BK297 2; have hfz31_3 := bf BK297 3) | ((with_reducible refine gate_callee (f := 35) rfl ?_); refine goesL_ (some 23) rfl rfl Try.func35 (by kernel_rfl) rfl #[.agg #[.int .i64 a1_0, .string a1_1, .string a1_2, .string a1_3], .int .i64 t298] rfl t2_ ?_; (with_reducible refine (laws_szRaw.calls a1_0 a1_1 a1_2 a1_3 t298 t299 _ A10.out).mono ?_); rintro e w32 ⟨rfl, hb⟩; refine ⟨_, rfl, ?_⟩; replace BK296 := bkN BK296 hb; replace BK297 := bkN BK297 hb; replace HB := Aside0.mk (below_step t18_ hb); (try clear hb); (try clear hb2); (try clear hk); (try clear hi)))
      replace BK296 := Aside0.mk (blk_drew BK296.out)
      replace BK297 := Aside0.mk (blk_drew BK297.out)
      replace HB := Aside0.mk (below_drew1 HB.out)
      refine start_ (n := 11) (S := fun w' => w'.cell? ⟨gb296, 0, none⟩ = some (.slice A0_0 l0_0.length c0_0) ∧ w'.cell? ⟨gb297, 0, none⟩ = some (.int .i64 a1_0) ∧ w'.cell? ⟨gb297, 1, none⟩ = some (.string a1_1) ∧ w'.cell? ⟨gb297, 2, none⟩ = some (.string a1_2) ∧ w'.cell? ⟨gb297, 3, none⟩ = some (.string a1_3)) (ds := []) #[false, false, false, false, false, false, false, false, false, false, false] (by kernel_rfl) rfl rfl ⟨bc0 BK296, bc0 BK297, bc1 BK297, bc2 BK297, bc3 BK297⟩ (fun hHeld => ?_); refine with_tabW laws_FnExactPutRaw.tab8 laws_FnExactPutRaw.bits8 (fun HT_ HW_ => ?_)
      generalize w32.drew = w33 at BK296 BK297 HB hHeld ⊢
      refine take_ (i := 0) (N := some 27) (v := ?_) (a' := ?_) #[true, false, false, false, false, false, false, false, false, false, false] rfl rfl (take_ofW HT_.out HW_.out (by kernel_rfl)) (fun _ _ _ h => h) (Or.inl ⟨by rfl, ?_⟩) hHeld ?_ ?_
      rotate_left
      · rintro w' ⟨s0, s1, s2, s3, s4⟩
        go_simp
        with_reducible rfl
      rotate_left
      · simp only [Act.put, List.setIfInBounds_toArray, List.set_cons_zero, List.set_cons_succ, i64_w, i32_w]
        rfl
      refine take_ (i := 2) (N := some 29) (v := ?_) (a' := ?_) #[true, false, true, false, false, false, false, false, false, false, false] rfl rfl (take_ofW HT_.out HW_.out (by kernel_rfl)) (fun _ _ _ h => h) (Or.inl ⟨by rfl, ?_⟩) hHeld ?_ ?_
      rotate_left
      · rintro w' ⟨s0, s1, s2, s3, s4⟩
        go_simp
        with_reducible rfl
      rotate_left
      · simp only [Act.put, List.setIfInBounds_toArray, List.set_cons_zero, List.set_cons_succ, i64_w, i32_w]
        rfl
      refine join_ (σ := Value × Value × Nat) 2 #[true, true, true, true, true, true, true, true, true, false, false] (fun s_ => [(28, .agg #[s_.1]), (30, .agg #[.int .i64 t303, .string t304, .string t305, .string t306]), (31, .tuple #[.agg #[s_.2.1], .bool t310]), (6, .pointer (some ⟨s_.2.2, 0, none⟩)), (26, .tuple #[.agg #[s_.2.1], .bool t310]), (32, .agg #[s_.2.1]), (33, .bool t310)]) (fun s_ w' => (w'.cell? ⟨gb296, 0, none⟩ = some (.slice A0_0 l0_0.length c0_0) ∧ w'.cell? ⟨gb297, 0, none⟩ = some (.int .i64 a1_0) ∧ w'.cell? ⟨gb297, 1, none⟩ = some (.string a1_1) ∧ w'.cell? ⟨gb297, 2, none⟩ = some (.string a1_2) ∧ w'.cell? ⟨gb297, 3, none⟩ = some (.string a1_3)) ∧ (Kd.R k71 71 w' w.heap.size (fun k_ => some k_ ≠ (s_.2.1 : Value).ownBlock) s_.1 t300) ∧ (Kd.R k71 71 w' w.heap.size (fun k_ => some k_ ≠ (s_.1 : Value).ownBlock) s_.2.1 t307) ∧ (w'.heap[gb296]? = some (.cells #[.slice A0_0 l0_0.length c0_0] 24 (0, 0))) ∧ (w'.heap[gb297]? = some (.cells #[.int .i64 a1_0, .string a1_1, .string a1_2, .string a1_3] 73 (0, 0))) ∧ (w'.heap[s_.2.2]? = some (.cells #[.slice none 0 0] 30 (0, 0))) ∧ (w.heap.size ≤ s_.2.2) ∧ (w.heap.size ≤ s_.2.2) ∧ (gb296 ≠ s_.2.2) ∧ (s_.2.2 ≠ gb296) ∧ (gb297 ≠ s_.2.2) ∧ (s_.2.2 ≠ gb297) ∧ (Below w.heap.size w w')) ?_ ?_
      rotate_left
      · intro hCont
        refine two_ (i := 1) (j := 8) (Ni := some 28) (Nj := some 6) #[true, true, true, false, false, false, false, false, false, false, false] #[true, false, true, false, false, false, false, false, true, false, false] rfl rfl rfl rfl (two_of HT_.out (by kernel_rfl)) (by decide) (by decide) (fun K hK => ?_) (fun K hK => ?_)
        · skip
          refine goes_ Try.func14 (by kernel_rfl) rfl #[.agg #[.slice A0_0 l0_0.length c0_0]] (by rfl) rfl rfl t2_ ?_
          with_reducible refine (laws_toDisk.calls k _ _ l0_0 t300 _ ?side1 ?side2 A19.out).mono ?_
          (case side1 => exact cB HR0_0 HB)
          (case side2 => exact HC0_0.out)
          rintro e w34 ⟨v301, rfl, ho0, hb⟩
          refine ⟨_, rfl, ?_⟩
          have HO302 := Aside0.mk (Kd.R_lower ho0 (below_size t18_))
          replace BK296 := bkN BK296 hb
          replace BK297 := bkN BK297 hb
          replace HB := Aside0.mk (below_step t18_ hb)
          (try clear hb)
          (try clear hb2)
          (try clear hk)
          (try clear hi)
          (try clear ho0)
          refine hK.out _ _ ⟨bc0 BK296, bc0 BK297, bc1 BK297, bc2 BK297, bc3 BK297⟩ (fun hHeld => ?_)
          clear hK K
          refine norm_ (a' := ?_) ?_ ?_
          rotate_left
          · show Act.put _ (some 28) _ = _
            simp only [Act.put, List.setIfInBounds_toArray, List.set_cons_zero, List.set_cons_succ, i64_w, i32_w]
            rfl
          refine two_ (i := 3) (j := 8) (Ni := some 30) (Nj := some 6) #[true, true, true, true, false, false, false, false, false, false, false] #[true, true, true, false, false, false, false, false, true, false, false] rfl rfl rfl rfl (two_of HT_.out (by kernel_rfl)) (by decide) (by decide) (fun K hK => ?_) (fun K hK => ?_)
          · skip
            refine goes_ Try.func37 (by kernel_rfl) rfl #[.agg #[.int .i64 a1_0, .string a1_1, .string a1_2, .string a1_3]] (by rfl) rfl rfl t2_ ?_
            with_reducible refine (laws_toRaw.calls a1_0 a1_1 a1_2 a1_3 t303 t304 t305 t306 _ A20.out).mono ?_
            rintro e w35 ⟨rfl, hb⟩
            refine ⟨_, rfl, ?_⟩
            replace HO302 := Aside0.mk (Kd.R_below t26_ hb)
            replace BK296 := bkN BK296 hb
            replace BK297 := bkN BK297 hb
            replace HB := Aside0.mk (below_step t18_ hb)
            (try clear hb)
            (try clear hb2)
            (try clear hk)
            (try clear hi)
            obtain ⟨Ao36, co36, eo36⟩ := Kd.R_slice HO302.out
            (first | subst eo36 | (injection eo36 with f1_ f2_ f3_; have f4_ := f1_.symm; have f5_ := f3_.symm; clear f1_ f2_ f3_; subst f4_; subst f5_))
            refine hK.out _ _ ⟨bc0 BK296, bc0 BK297, bc1 BK297, bc2 BK297, bc3 BK297⟩ (fun hHeld => ?_)
            clear hK K
            refine norm_ (a' := ?_) ?_ ?_
            rotate_left
            · show Act.put _ (some 30) _ = _
              simp only [Act.put, List.setIfInBounds_toArray, List.set_cons_zero, List.set_cons_succ, i64_w, i32_w]
              rfl
            refine two_ (i := 4) (j := 8) (Ni := some 31) (Nj := some 6) #[true, true, true, true, true, false, false, false, false, false, false] #[true, true, true, true, false, false, false, false, true, false, false] rfl rfl rfl rfl (two_of HT_.out (by kernel_rfl)) (by decide) (by decide) (fun K hK => ?_) (fun K hK => ?_)
            · skip
              refine goes_ Try.func36 (by kernel_rfl) rfl #[.agg #[.slice Ao36 t300.length co36], .agg #[.int .i64 t303, .string t304, .string t305, .string t306]] (by rfl) rfl rfl t2_ ?_
              with_reducible refine (spec_PutRaw.calls k _ _ t300 t303 t304 t305 t306 t307 t310 _ ?side1 ?side2 A21.out).mono ?_
              (case side1 => repeat (first | exact (Kd.R_reads' HO302.out).2.2 | (with_reducible refine Kd.C_alloc ?_ _) | (with_reducible refine Kd.C_drewN ?_ _) | (with_reducible refine Kd.C_drew ?_)))
              (case side2 => exact (Kd.R_reads' HO302.out).2.1)
              rintro e w37 ⟨v308, rfl, ho0, hb⟩
              refine ⟨_, rfl, ?_⟩
              have HO309 := Aside0.mk (Kd.R_lower (Kd.R_new' ho0 (Kd.R_lt t26_)) (below_size t18_))
              replace HO302 := Aside0.mk (Kd.R_elder' t26_ (Kd.R_base ho0) hb)
              replace BK296 := bkN BK296 hb
              replace BK297 := bkN BK297 hb
              replace HB := Aside0.mk (below_step t18_ hb)
              (try clear hb)
              (try clear hb2)
              (try clear hk)
              (try clear hi)
              (try clear ho0)
              refine hK.out _ _ ⟨bc0 BK296, bc0 BK297, bc1 BK297, bc2 BK297, bc3 BK297⟩ (fun hHeld => ?_)
              clear hK K
              refine norm_ (a' := ?_) ?_ ?_
              rotate_left
              · show Act.put _ (some 31) _ = _
                simp only [Act.put, List.setIfInBounds_toArray, List.set_cons_zero, List.set_cons_succ, i64_w, i32_w]
                rfl
              refine pure_ (i := 5) (N := some 26) (v := ?_) (a' := ?_) #[true, true, true, true, true, true, false, false, false, false, false] rfl rfl (any_of HT_.out (by kernel_rfl)) (fun _ _ _ h => h) (Or.inl ⟨by rfl, ?_⟩) ?_ ?_
              rotate_left
              · intro w'
                go_simp
                with_reducible rfl
              rotate_left
              · simp only [Act.put, List.setIfInBounds_toArray, List.set_cons_zero, List.set_cons_succ, i64_w, i32_w]
                rfl
              refine pure_ (i := 6) (N := some 32) (v := ?_) (a' := ?_) #[true, true, true, true, true, true, true, false, false, false, false] rfl rfl (any_of HT_.out (by kernel_rfl)) (fun _ _ _ h => h) (Or.inl ⟨by rfl, ?_⟩) ?_ ?_
              rotate_left
              · intro w'
                go_simp
                with_reducible rfl
              rotate_left
              · simp only [Act.put, List.setIfInBounds_toArray, List.set_cons_zero, List.set_cons_succ, i64_w, i32_w]
                rfl
              refine pure_ (i := 7) (N := some 33) (v := ?_) (a' := ?_) #[true, true, true, true, true, true, true, true, false, false, false] rfl rfl (any_of HT_.out (by kernel_rfl)) (fun _ _ _ h => h) (Or.inl ⟨by rfl, ?_⟩) ?_ ?_
              rotate_left
              · intro w'
                go_simp
                with_reducible rfl
              rotate_left
              · simp only [Act.put, List.setIfInBounds_toArray, List.set_cons_zero, List.set_cons_succ, i64_w, i32_w]
                rfl
              refine one_ (i := 8) (N := some 6) #[true, true, true, true, true, true, true, true, true, false, false] rfl rfl (one_of HT_.out (by kernel_rfl)) (by decide) (fun K hK => ?_)
              refine box_step ?hg (N := 6) ?hd (cs := #[.slice none 0 0]) (t := 30) ?hr ?_; (case hd => rfl); (case hg => rfl); (case hr => first | (go_simp; done) | (go_simp; rfl))
              intro gb311 hg w38 hbox hb
              replace HO302 := Aside0.mk (Kd.R_below t26_ hb)
              replace HO309 := Aside0.mk (Kd.R_below t42_ hb)
              have BK311 := Aside0.mk (hbox)
              have GW311 := Aside0.mk ((t31_ : w.heap.size ≤ gb311))
              have GE311 := Aside0.mk ((t31_ : w.heap.size ≤ gb311))
              replace HB := Aside0.mk (below_step t18_ hb)
              have NB296_311 := nbL BK296 hg
              have NB311_296 := nbG BK296 hg
              replace BK296 := bkN BK296 hb
              have NB297_311 := nbL BK297 hg
              have NB311_297 := nbG BK297 hg
              replace BK297 := bkN BK297 hb
              clear hb hbox hg
              refine hK.out _ _ ⟨bc0 BK296, bc0 BK297, bc1 BK297, bc2 BK297, bc3 BK297⟩ (fun hHeld => ?_)
              clear hK K
              refine norm_ (a' := ?_) ?_ ?_
              rotate_left
              · show Act.put _ (some 6) _ = _
                simp only [Act.put, List.setIfInBounds_toArray, List.set_cons_zero, List.set_cons_succ, i64_w, i32_w]
                rfl
              exact norm_ t53_ (hCont (.slice Ao36 t300.length co36, v308, gb311) _ ⟨hHeld, (by (with_reducible repeat (first | apply Kd.R_alloc | apply Kd.R_drewN | apply Kd.R_drew)); exact Kd.R_mono HO302.out (fun _ hk => hk.2)), (by (with_reducible repeat (first | apply Kd.R_alloc | apply Kd.R_drewN | apply Kd.R_drew)); exact Kd.R_mono HO309.out (fun _ hk => hk.2)), t34_, t35_, t36_, GW311.out, GE311.out, NB296_311.out, NB311_296.out, NB297_311.out, NB311_297.out, t19_⟩)
            · skip
              refine box_step ?hg (N := 6) ?hd (cs := #[.slice none 0 0]) (t := 30) ?hr ?_; (case hd => rfl); (case hg => rfl); (case hr => first | (go_simp; done) | (go_simp; rfl))
              intro gb311 hg w36 hbox hb
              replace HO302 := Aside0.mk (Kd.R_below t26_ hb)
              have BK311 := Aside0.mk (hbox)
              have GW311 := Aside0.mk ((t31_ : w.heap.size ≤ gb311))
              have GE311 := Aside0.mk ((t31_ : w.heap.size ≤ gb311))
              replace HB := Aside0.mk (below_step t18_ hb)
              have NB296_311 := nbL BK296 hg
              have NB311_296 := nbG BK296 hg
              replace BK296 := bkN BK296 hb
              have NB297_311 := nbL BK297 hg
              have NB311_297 := nbG BK297 hg
              replace BK297 := bkN BK297 hb
              clear hb hbox hg
              obtain ⟨Ao37, co37, eo37⟩ := Kd.R_slice HO302.out
              (first | subst eo37 | (injection eo37 with f1_ f2_ f3_; have f4_ := f1_.symm; have f5_ := f3_.symm; clear f1_ f2_ f3_; subst f4_; subst f5_))
              refine hK.out _ _ ⟨bc0 BK296, bc0 BK297, bc1 BK297, bc2 BK297, bc3 BK297⟩ (fun hHeld => ?_)
              clear hK K
              refine norm_ (a' := ?_) ?_ ?_
              rotate_left
              · show Act.put _ (some 6) _ = _
                simp only [Act.put, List.setIfInBounds_toArray, List.set_cons_zero, List.set_cons_succ, i64_w, i32_w]
                rfl
              refine one_ (i := 4) (N := some 31) #[true, true, true, true, true, false, false, false, true, false, false] rfl rfl (one_of HT_.out (by kernel_rfl)) (by decide) (fun K hK => ?_)
              refine goes_ Try.func36 (by kernel_rfl) rfl #[.agg #[.slice Ao37 t300.length co37], .agg #[.int .i64 t303, .string t304, .string t305, .string t306]] (by rfl) rfl rfl t2_ ?_
              with_reducible refine (spec_PutRaw.calls k _ _ t300 t303 t304 t305 t306 t307 t310 _ ?side1 ?side2 A21.out).mono ?_
              (case side1 => repeat (first | exact (Kd.R_reads' HO302.out).2.2 | (with_reducible refine Kd.C_alloc ?_ _) | (with_reducible refine Kd.C_drewN ?_ _) | (with_reducible refine Kd.C_drew ?_)))
              (case side2 => exact (Kd.R_reads' HO302.out).2.1)
              rintro e w38 ⟨v308, rfl, ho0, hb⟩
              refine ⟨_, rfl, ?_⟩
              have HO309 := Aside0.mk (Kd.R_lower (Kd.R_new' ho0 (Kd.R_lt t26_)) (below_size t19_))
              replace HO302 := Aside0.mk (Kd.R_elder' t26_ (Kd.R_base ho0) hb)
              replace BK296 := bkN BK296 hb
              replace BK297 := bkN BK297 hb
              replace BK311 := bkN BK311 hb
              replace HB := Aside0.mk (below_step t19_ hb)
              (try clear hb)
              (try clear hb2)
              (try clear hk)
              (try clear hi)
              (try clear ho0)
              refine hK.out _ _ ⟨bc0 BK296, bc0 BK297, bc1 BK297, bc2 BK297, bc3 BK297⟩ (fun hHeld => ?_)
              clear hK K
              refine norm_ (a' := ?_) ?_ ?_
              rotate_left
              · show Act.put _ (some 31) _ = _
                simp only [Act.put, List.setIfInBounds_toArray, List.set_cons_zero, List.set_cons_succ, i64_w, i32_w]
                rfl
              refine pure_ (i := 5) (N := some 26) (v := ?_) (a' := ?_) #[true, true, true, true, true, true, false, false, true, false, false] rfl rfl (any_of HT_.out (by kernel_rfl)) (fun _ _ _ h => h) (Or.inl ⟨by rfl, ?_⟩) ?_ ?_
              rotate_left
              · intro w'
                go_simp
                with_reducible rfl
              rotate_left
              · simp only [Act.put, List.setIfInBounds_toArray, List.set_cons_zero, List.set_cons_succ, i64_w, i32_w]
                rfl
              refine pure_ (i := 6) (N := some 32) (v := ?_) (a' := ?_) #[true, true, true, true, true, true, true, false, true, false, false] rfl rfl (any_of HT_.out (by kernel_rfl)) (fun _ _ _ h => h) (Or.inl ⟨by rfl, ?_⟩) ?_ ?_
              rotate_left
              · intro w'
                go_simp
                with_reducible rfl
              rotate_left
              · simp only [Act.put, List.setIfInBounds_toArray, List.set_cons_zero, List.set_cons_succ, i64_w, i32_w]
                rfl
              refine pure_ (i := 7) (N := some 33) (v := ?_) (a' := ?_) #[true, true, true, true, true, true, true, true, true, false, false] rfl rfl (any_of HT_.out (by kernel_rfl)) (fun _ _ _ h => h) (Or.inl ⟨by rfl, ?_⟩) ?_ ?_
              rotate_left
              · intro w'
                go_simp
                with_reducible rfl
              rotate_left
              · simp only [Act.put, List.setIfInBounds_toArray, List.set_cons_zero, List.set_cons_succ, i64_w, i32_w]
                rfl
              exact norm_ t53_ (hCont (.slice Ao37 t300.length co37, v308, gb311) _ ⟨hHeld, (by (with_reducible repeat (first | apply Kd.R_alloc | apply Kd.R_drewN | apply Kd.R_drew)); exact Kd.R_mono HO302.out (fun _ hk => hk.2)), (by (with_reducible repeat (first | apply Kd.R_alloc | apply Kd.R_drewN | apply Kd.R_drew)); exact Kd.R_mono HO309.out (fun _ hk => hk.2)), t34_, t35_, t36_, GW311.out, GE311.out, NB296_311.out, NB311_296.out, NB297_311.out, NB311_297.out, t19_⟩)
          · skip
            refine box_step ?hg (N := 6) ?hd (cs := #[.slice none 0 0]) (t := 30) ?hr ?_; (case hd => rfl); (case hg => rfl); (case hr => first | (go_simp; done) | (go_simp; rfl))
            intro gb311 hg w35 hbox hb
            replace HO302 := Aside0.mk (Kd.R_below t26_ hb)
            have BK311 := Aside0.mk (hbox)
            have GW311 := Aside0.mk ((t31_ : w.heap.size ≤ gb311))
            have GE311 := Aside0.mk ((t31_ : w.heap.size ≤ gb311))
            replace HB := Aside0.mk (below_step t18_ hb)
            have NB296_311 := nbL BK296 hg
            have NB311_296 := nbG BK296 hg
            replace BK296 := bkN BK296 hb
            have NB297_311 := nbL BK297 hg
            have NB311_297 := nbG BK297 hg
            replace BK297 := bkN BK297 hb
            clear hb hbox hg
            refine hK.out _ _ ⟨bc0 BK296, bc0 BK297, bc1 BK297, bc2 BK297, bc3 BK297⟩ (fun hHeld => ?_)
            clear hK K
            refine norm_ (a' := ?_) ?_ ?_
            rotate_left
            · show Act.put _ (some 6) _ = _
              simp only [Act.put, List.setIfInBounds_toArray, List.set_cons_zero, List.set_cons_succ, i64_w, i32_w]
              rfl
            refine one_ (i := 3) (N := some 30) #[true, true, true, true, false, false, false, false, true, false, false] rfl rfl (one_of HT_.out (by kernel_rfl)) (by decide) (fun K hK => ?_)
            refine goes_ Try.func37 (by kernel_rfl) rfl #[.agg #[.int .i64 a1_0, .string a1_1, .string a1_2, .string a1_3]] (by rfl) rfl rfl t2_ ?_
            with_reducible refine (laws_toRaw.calls a1_0 a1_1 a1_2 a1_3 t303 t304 t305 t306 _ A20.out).mono ?_
            rintro e w36 ⟨rfl, hb⟩
            refine ⟨_, rfl, ?_⟩
            replace HO302 := Aside0.mk (Kd.R_below t26_ hb)
            replace BK296 := bkN BK296 hb
            replace BK297 := bkN BK297 hb
            replace BK311 := bkN BK311 hb
            replace HB := Aside0.mk (below_step t19_ hb)
            (try clear hb)
            (try clear hb2)
            (try clear hk)
            (try clear hi)
            obtain ⟨Ao37, co37, eo37⟩ := Kd.R_slice HO302.out
            (first | subst eo37 | (injection eo37 with f1_ f2_ f3_; have f4_ := f1_.symm; have f5_ := f3_.symm; clear f1_ f2_ f3_; subst f4_; subst f5_))
            refine hK.out _ _ ⟨bc0 BK296, bc0 BK297, bc1 BK297, bc2 BK297, bc3 BK297⟩ (fun hHeld => ?_)
            clear hK K
            refine norm_ (a' := ?_) ?_ ?_
            rotate_left
            · show Act.put _ (some 30) _ = _
              simp only [Act.put, List.setIfInBounds_toArray, List.set_cons_zero, List.set_cons_succ, i64_w, i32_w]
              rfl
            refine one_ (i := 4) (N := some 31) #[true, true, true, true, true, false, false, false, true, false, false] rfl rfl (one_of HT_.out (by kernel_rfl)) (by decide) (fun K hK => ?_)
            refine goes_ Try.func36 (by kernel_rfl) rfl #[.agg #[.slice Ao37 t300.length co37], .agg #[.int .i64 t303, .string t304, .string t305, .string t306]] (by rfl) rfl rfl t2_ ?_
            with_reducible refine (spec_PutRaw.calls k _ _ t300 t303 t304 t305 t306 t307 t310 _ ?side1 ?side2 A21.out).mono ?_
            (case side1 => repeat (first | exact (Kd.R_reads' HO302.out).2.2 | (with_reducible refine Kd.C_alloc ?_ _) | (with_reducible refine Kd.C_drewN ?_ _) | (with_reducible refine Kd.C_drew ?_)))
            (case side2 => exact (Kd.R_reads' HO302.out).2.1)
            rintro e w38 ⟨v308, rfl, ho0, hb⟩
            refine ⟨_, rfl, ?_⟩
            have HO309 := Aside0.mk (Kd.R_lower (Kd.R_new' ho0 (Kd.R_lt t26_)) (below_size t19_))
            replace HO302 := Aside0.mk (Kd.R_elder' t26_ (Kd.R_base ho0) hb)
            replace BK296 := bkN BK296 hb
            replace BK297 := bkN BK297 hb
            replace BK311 := bkN BK311 hb
            replace HB := Aside0.mk (below_step t19_ hb)
            (try clear hb)
            (try clear hb2)
            (try clear hk)
            (try clear hi)
            (try clear ho0)
            refine hK.out _ _ ⟨bc0 BK296, bc0 BK297, bc1 BK297, bc2 BK297, bc3 BK297⟩ (fun hHeld => ?_)
            clear hK K
            refine norm_ (a' := ?_) ?_ ?_
            rotate_left
            · show Act.put _ (some 31) _ = _
              simp only [Act.put, List.setIfInBounds_toArray, List.set_cons_zero, List.set_cons_succ, i64_w, i32_w]
              rfl
            refine pure_ (i := 5) (N := some 26) (v := ?_) (a' := ?_) #[true, true, true, true, true, true, false, false, true, false, false] rfl rfl (any_of HT_.out (by kernel_rfl)) (fun _ _ _ h => h) (Or.inl ⟨by rfl, ?_⟩) ?_ ?_
            rotate_left
            · intro w'
              go_simp
              with_reducible rfl
            rotate_left
            · simp only [Act.put, List.setIfInBounds_toArray, List.set_cons_zero, List.set_cons_succ, i64_w, i32_w]
              rfl
            refine pure_ (i := 6) (N := some 32) (v := ?_) (a' := ?_) #[true, true, true, true, true, true, true, false, true, false, false] rfl rfl (any_of HT_.out (by kernel_rfl)) (fun _ _ _ h => h) (Or.inl ⟨by rfl, ?_⟩) ?_ ?_
            rotate_left
            · intro w'
              go_simp
              with_reducible rfl
            rotate_left
            · simp only [Act.put, List.setIfInBounds_toArray, List.set_cons_zero, List.set_cons_succ, i64_w, i32_w]
              rfl
            refine pure_ (i := 7) (N := some 33) (v := ?_) (a' := ?_) #[true, true, true, true, true, true, true, true, true, false, false] rfl rfl (any_of HT_.out (by kernel_rfl)) (fun _ _ _ h => h) (Or.inl ⟨by rfl, ?_⟩) ?_ ?_
            rotate_left
            · intro w'
              go_simp
              with_reducible rfl
            rotate_left
            · simp only [Act.put, List.setIfInBounds_toArray, List.set_cons_zero, List.set_cons_succ, i64_w, i32_w]
              rfl
            exact norm_ t53_ (hCont (.slice Ao37 t300.length co37, v308, gb311) _ ⟨hHeld, (by (with_reducible repeat (first | apply Kd.R_alloc | apply Kd.R_drewN | apply Kd.R_drew)); exact Kd.R_mono HO302.out (fun _ hk => hk.2)), (by (with_reducible repeat (first | apply Kd.R_alloc | apply Kd.R_drewN | apply Kd.R_drew)); exact Kd.R_mono HO309.out (fun _ hk => hk.2)), t34_, t35_, t36_, GW311.out, GE311.out, NB296_311.out, NB311_296.out, NB297_311.out, NB311_297.out, t19_⟩)
        · skip
          refine box_step ?hg (N := 6) ?hd (cs := #[.slice none 0 0]) (t := 30) ?hr ?_; (case hd => rfl); (case hg => rfl); (case hr => first | (go_simp; done) | (go_simp; rfl))
          intro gb311 hg w34 hbox hb
          have BK311 := Aside0.mk (hbox)
          have GW311 := Aside0.mk ((t31_ : w.heap.size ≤ gb311))
          have GE311 := Aside0.mk ((t31_ : w.heap.size ≤ gb311))
          replace HB := Aside0.mk (below_step t18_ hb)
          have NB296_311 := nbL BK296 hg
          have NB311_296 := nbG BK296 hg
          replace BK296 := bkN BK296 hb
          have NB297_311 := nbL BK297 hg
          have NB311_297 := nbG BK297 hg
          replace BK297 := bkN BK297 hb
          clear hb hbox hg
          refine hK.out _ _ ⟨bc0 BK296, bc0 BK297, bc1 BK297, bc2 BK297, bc3 BK297⟩ (fun hHeld => ?_)
          clear hK K
          refine norm_ (a' := ?_) ?_ ?_
          rotate_left
          · show Act.put _ (some 6) _ = _
            simp only [Act.put, List.setIfInBounds_toArray, List.set_cons_zero, List.set_cons_succ, i64_w, i32_w]
            rfl
          refine one_ (i := 1) (N := some 28) #[true, true, true, false, false, false, false, false, true, false, false] rfl rfl (one_of HT_.out (by kernel_rfl)) (by decide) (fun K hK => ?_)
          refine goes_ Try.func14 (by kernel_rfl) rfl #[.agg #[.slice A0_0 l0_0.length c0_0]] (by rfl) rfl rfl t2_ ?_
          with_reducible refine (laws_toDisk.calls k _ _ l0_0 t300 _ ?side1 ?side2 A19.out).mono ?_
          (case side1 => exact cB HR0_0 HB)
          (case side2 => exact HC0_0.out)
          rintro e w35 ⟨v301, rfl, ho0, hb⟩
          refine ⟨_, rfl, ?_⟩
          have HO302 := Aside0.mk (Kd.R_lower ho0 (below_size t19_))
          replace BK296 := bkN BK296 hb
          replace BK297 := bkN BK297 hb
          replace BK311 := bkN BK311 hb
          replace HB := Aside0.mk (below_step t19_ hb)
          (try clear hb)
          (try clear hb2)
          (try clear hk)
          (try clear hi)
          (try clear ho0)
          refine hK.out _ _ ⟨bc0 BK296, bc0 BK297, bc1 BK297, bc2 BK297, bc3 BK297⟩ (fun hHeld => ?_)
          clear hK K
          refine norm_ (a' := ?_) ?_ ?_
          rotate_left
          · show Act.put _ (some 28) _ = _
            simp only [Act.put, List.setIfInBounds_toArray, List.set_cons_zero, List.set_cons_succ, i64_w, i32_w]
            rfl
          refine one_ (i := 3) (N := some 30) #[true, true, true, true, false, false, false, false, true, false, false] rfl rfl (one_of HT_.out (by kernel_rfl)) (by decide) (fun K hK => ?_)
          refine goes_ Try.func37 (by kernel_rfl) rfl #[.agg #[.int .i64 a1_0, .string a1_1, .string a1_2, .string a1_3]] (by rfl) rfl rfl t2_ ?_
          with_reducible refine (laws_toRaw.calls a1_0 a1_1 a1_2 a1_3 t303 t304 t305 t306 _ A20.out).mono ?_
          rintro e w36 ⟨rfl, hb⟩
          refine ⟨_, rfl, ?_⟩
          replace HO302 := Aside0.mk (Kd.R_below t26_ hb)
          replace BK296 := bkN BK296 hb
          replace BK297 := bkN BK297 hb
          replace BK311 := bkN BK311 hb
          replace HB := Aside0.mk (below_step t19_ hb)
          (try clear hb)
          (try clear hb2)
          (try clear hk)
          (try clear hi)
          obtain ⟨Ao37, co37, eo37⟩ := Kd.R_slice HO302.out
          (first | subst eo37 | (injection eo37 with f1_ f2_ f3_; have f4_ := f1_.symm; have f5_ := f3_.symm; clear f1_ f2_ f3_; subst f4_; subst f5_))
          refine hK.out _ _ ⟨bc0 BK296, bc0 BK297, bc1 BK297, bc2 BK297, bc3 BK297⟩ (fun hHeld => ?_)
          clear hK K
          refine norm_ (a' := ?_) ?_ ?_
          rotate_left
          · show Act.put _ (some 30) _ = _
            simp only [Act.put, List.setIfInBounds_toArray, List.set_cons_zero, List.set_cons_succ, i64_w, i32_w]
            rfl
          refine one_ (i := 4) (N := some 31) #[true, true, true, true, true, false, false, false, true, false, false] rfl rfl (one_of HT_.out (by kernel_rfl)) (by decide) (fun K hK => ?_)
          refine goes_ Try.func36 (by kernel_rfl) rfl #[.agg #[.slice Ao37 t300.length co37], .agg #[.int .i64 t303, .string t304, .string t305, .string t306]] (by rfl) rfl rfl t2_ ?_
          with_reducible refine (spec_PutRaw.calls k _ _ t300 t303 t304 t305 t306 t307 t310 _ ?side1 ?side2 A21.out).mono ?_
          (case side1 => repeat (first | exact (Kd.R_reads' HO302.out).2.2 | (with_reducible refine Kd.C_alloc ?_ _) | (with_reducible refine Kd.C_drewN ?_ _) | (with_reducible refine Kd.C_drew ?_)))
          (case side2 => exact (Kd.R_reads' HO302.out).2.1)
          rintro e w38 ⟨v308, rfl, ho0, hb⟩
          refine ⟨_, rfl, ?_⟩
          have HO309 := Aside0.mk (Kd.R_lower (Kd.R_new' ho0 (Kd.R_lt t26_)) (below_size t19_))
          replace HO302 := Aside0.mk (Kd.R_elder' t26_ (Kd.R_base ho0) hb)
          replace BK296 := bkN BK296 hb
          replace BK297 := bkN BK297 hb
          replace BK311 := bkN BK311 hb
          replace HB := Aside0.mk (below_step t19_ hb)
          (try clear hb)
          (try clear hb2)
          (try clear hk)
          (try clear hi)
          (try clear ho0)
          refine hK.out _ _ ⟨bc0 BK296, bc0 BK297, bc1 BK297, bc2 BK297, bc3 BK297⟩ (fun hHeld => ?_)
          clear hK K
          refine norm_ (a' := ?_) ?_ ?_
          rotate_left
          · show Act.put _ (some 31) _ = _
            simp only [Act.put, List.setIfInBounds_toArray, List.set_cons_zero, List.set_cons_succ, i64_w, i32_w]
            rfl
          refine pure_ (i := 5) (N := some 26) (v := ?_) (a' := ?_) #[true, true, true, true, true, true, false, false, true, false, false] rfl rfl (any_of HT_.out (by kernel_rfl)) (fun _ _ _ h => h) (Or.inl ⟨by rfl, ?_⟩) ?_ ?_
          rotate_left
          · intro w'
            go_simp
            with_reducible rfl
          rotate_left
          · simp only [Act.put, List.setIfInBounds_toArray, List.set_cons_zero, List.set_cons_succ, i64_w, i32_w]
            rfl
          refine pure_ (i := 6) (N := some 32) (v := ?_) (a' := ?_) #[true, true, true, true, true, true, true, false, true, false, false] rfl rfl (any_of HT_.out (by kernel_rfl)) (fun _ _ _ h => h) (Or.inl ⟨by rfl, ?_⟩) ?_ ?_
          rotate_left
          · intro w'
            go_simp
            with_reducible rfl
          rotate_left
          · simp only [Act.put, List.setIfInBounds_toArray, List.set_cons_zero, List.set_cons_succ, i64_w, i32_w]
            rfl
          refine pure_ (i := 7) (N := some 33) (v := ?_) (a' := ?_) #[true, true, true, true, true, true, true, true, true, false, false] rfl rfl (any_of HT_.out (by kernel_rfl)) (fun _ _ _ h => h) (Or.inl ⟨by rfl, ?_⟩) ?_ ?_
          rotate_left
          · intro w'
            go_simp
            with_reducible rfl
          rotate_left
          · simp only [Act.put, List.setIfInBounds_toArray, List.set_cons_zero, List.set_cons_succ, i64_w, i32_w]
            rfl
          exact norm_ t53_ (hCont (.slice Ao37 t300.length co37, v308, gb311) _ ⟨hHeld, (by (with_reducible repeat (first | apply Kd.R_alloc | apply Kd.R_drewN | apply Kd.R_drew)); exact Kd.R_mono HO302.out (fun _ hk => hk.2)), (by (with_reducible repeat (first | apply Kd.R_alloc | apply Kd.R_drewN | apply Kd.R_drew)); exact Kd.R_mono HO309.out (fun _ hk => hk.2)), t34_, t35_, t36_, GW311.out, GE311.out, NB296_311.out, NB311_296.out, NB297_311.out, NB311_297.out, t19_⟩)
      rintro ⟨v301, v308, gb311⟩ w39 ⟨hS_, h0_, h1_, h2_, h3_, h4_, h5_, h6_, h7_, h8_, h9_, h10_, h11_⟩
      have n0_ : Aside0 (Kd.R k71 71 w39 w.heap.size (fun k_ => some k_ ≠ (v308 : Value).ownBlock) v301 t300) := ⟨h0_⟩
      have n1_ : Aside0 (Kd.R k71 71 w39 w.heap.size (fun k_ => some k_ ≠ (v301 : Value).ownBlock) v308 t307) := ⟨h1_⟩
      have n2_ : Aside0 (w39.heap[gb296]? = some (.cells #[.slice A0_0 l0_0.length c0_0] 24 (0, 0))) := ⟨h2_⟩
      have n3_ : Aside0 (w39.heap[gb297]? = some (.cells #[.int .i64 a1_0, .string a1_1, .string a1_2, .string a1_3] 73 (0, 0))) := ⟨h3_⟩
      have n4_ : Aside0 (w39.heap[gb311]? = some (.cells #[.slice none 0 0] 30 (0, 0))) := ⟨h4_⟩
      have n5_ : Aside0 (w.heap.size ≤ gb311) := ⟨h5_⟩
      have n6_ : Aside0 (w.heap.size ≤ gb311) := ⟨h6_⟩
      have n7_ : Aside0 (gb296 ≠ gb311) := ⟨h7_⟩
      have n8_ : Aside0 (gb311 ≠ gb296) := ⟨h8_⟩
      have n9_ : Aside0 (gb297 ≠ gb311) := ⟨h9_⟩
      have n10_ : Aside0 (gb311 ≠ gb297) := ⟨h10_⟩
      have n11_ : Aside0 (Below w.heap.size w w39) := ⟨h11_⟩
      clear BK296
      clear BK297
      clear HB
      clear h0_ h1_ h2_ h3_ h4_ h5_ h6_ h7_ h8_ h9_ h10_ h11_
      have HO302 := n0_
      have HO309 := n1_
      have BK296 := n2_
      have BK297 := n3_
      have BK311 := n4_
      have GW311 := n5_
      have GE311 := n6_
      have NB296_311 := n7_
      have NB311_296 := n8_
      have NB297_311 := n9_
      have NB311_297 := n10_
      have HB := n11_
      clear n0_ n1_ n2_ n3_ n4_ n5_ n6_ n7_ n8_ n9_ n10_ n11_
      have hHeld : w39.cell? ⟨gb296, 0, none⟩ = some (.slice A0_0 l0_0.length c0_0) ∧ w39.cell? ⟨gb297, 0, none⟩ = some (.int .i64 a1_0) ∧ w39.cell? ⟨gb297, 1, none⟩ = some (.string a1_1) ∧ w39.cell? ⟨gb297, 2, none⟩ = some (.string a1_2) ∧ w39.cell? ⟨gb297, 3, none⟩ = some (.string a1_3) := hS_
      obtain ⟨Ao40, co40, eo40⟩ := Kd.R_slice HO309.out
      (first | subst eo40 | (injection eo40 with f1_ f2_ f3_; have f4_ := f1_.symm; have f5_ := f3_.symm; clear f1_ f2_ f3_; subst f4_; subst f5_))
      refine norm_ (a' := ?_) ?_ ?_
      rotate_left
      · simp only [putAll, Act.put, List.setIfInBounds_toArray, List.set_cons_zero, List.set_cons_succ]
        rfl
      refine one_ (i := 9) (N := none) #[true, true, true, true, true, true, true, true, true, true, false] rfl rfl (one_of HT_.out (by kernel_rfl)) (by decide) (fun K hK => ?_)
      have hs41 : w39.cell? ⟨gb311, 0, none⟩ = some (.slice none 0 0) := bc0 BK311
      have hfs41 := bf BK311 0
      have hns41_0 := NB296_311.out
      have hns41_1 := NB297_311.out
      have hms41_0 := NB311_296.out
      have hms41_1 := NB311_297.out
      refine skip_ (w1 := ?_) (by rfl) rfl ?_ ?_
      rotate_left
      · go_simp
        rfl
      refine hK.out _ _ ⟨((cell_far (p := ⟨gb311, _, none⟩) NB296_311.out _).trans (hHeld.1)), ((cell_far (p := ⟨gb311, _, none⟩) NB297_311.out _).trans (hHeld.2.1)), ((cell_far (p := ⟨gb311, _, none⟩) NB297_311.out _).trans (hHeld.2.2.1)), ((cell_far (p := ⟨gb311, _, none⟩) NB297_311.out _).trans (hHeld.2.2.2.1)), ((cell_far (p := ⟨gb311, _, none⟩) NB297_311.out _).trans (hHeld.2.2.2.2))⟩ (fun hHeld => ?_)
      clear hK K
      refine pure_ (i := 10) (N := some 7) (v := ?_) (a' := ?_) #[true, true, true, true, true, true, true, true, true, true, true] rfl rfl (any_of HT_.out (by kernel_rfl)) (fun _ _ _ h => h) (Or.inl ⟨by rfl, ?_⟩) ?_ ?_
      rotate_left
      · intro w'
        go_simp
        with_reducible rfl
      rotate_left
      · simp only [Act.put, List.setIfInBounds_toArray, List.set_cons_zero, List.set_cons_succ, i64_w, i32_w]
        rfl
      refine done_ (done_of HT_.out (by kernel_rfl)) ?_
      have hnb42 := NB296_311.out
      have hnc42 := NB311_296.out
      have hcz43_0 := bc0 BK296
      have hfz43_0 := bf BK296 0
      try go_wp2_with (first | ((with_reducible refine gate_callee (f := 14) rfl ?_); refine goesL_ (some 35) rfl rfl Try.func14 (by kernel_rfl) rfl #[.agg #[.slice A0_0 l0_0.length c0_0]] rfl t2_ ?_; (with_reducible refine (laws_toDisk.calls k _ _ l0_0 t312 _ ?side1 ?side2 A22.out).mono ?_); (case side1 => exact Kd.C_below HR0_0.out t19_); (case side2 => exact HC0_0.out); rintro e w44 ⟨v313, rfl, ho0, hb⟩; refine ⟨_, rfl, ?_⟩; have HO314 := Aside0.mk (Kd.R_lower (Kd.R_new' (Kd.R_new' ho0 (Kd.R_lt (by (with_reducible repeat (first | apply Kd.R_alloc | apply Kd.R_drewN | apply Kd.R_drew)); exact (Kd.R_mono (Kd.R_far (p := ⟨gb311, 0, none⟩) (Kd.R_types HO302.out BK311.out (by decide)) (fun _ hk => hk.2) (.slice Ao40 t307.length co40)) (fun _ h_ => h_.1))))) (Kd.R_lt (by (with_reducible repeat (first | apply Kd.R_alloc | apply Kd.R_drewN | apply Kd.R_drew)); exact (Kd.R_mono (Kd.R_far (p := ⟨gb311, 0, none⟩) (Kd.R_types HO309.out BK311.out (by decide)) (fun _ hk => hk.2) (.slice Ao40 t307.length co40)) (fun _ h_ => h_.1))))) (below_size t19_)); replace HO302 := Aside0.mk (Kd.R_elder' (by (with_reducible repeat (first | apply Kd.R_alloc | apply Kd.R_drewN | apply Kd.R_drew)); exact (Kd.R_mono (Kd.R_far (p := ⟨gb311, 0, none⟩) (Kd.R_types HO302.out BK311.out (by decide)) (fun _ hk => hk.2) (.slice Ao40 t307.length co40)) (fun _ h_ => h_.1))) (Kd.R_base ho0) hb); replace HO309 := Aside0.mk (Kd.R_elder' (by (with_reducible repeat (first | apply Kd.R_alloc | apply Kd.R_drewN | apply Kd.R_drew)); exact (Kd.R_mono (Kd.R_far (p := ⟨gb311, 0, none⟩) (Kd.R_types HO309.out BK311.out (by decide)) (fun _ hk => hk.2) (.slice Ao40 t307.length co40)) (fun _ h_ => h_.1))) (Kd.R_base ho0) hb); replace BK296 := bkF BK296 NB296_311 hb; replace BK297 := bkF BK297 NB297_311 hb; replace BK311 := Aside0.mk (blk_below (g := gb311) (o := .cells #[.slice Ao40 t307.length co40] 30 (0, 0)) (by (with_reducible repeat (first | refine blk_drewN ?_ _ | refine blk_drew ?_ | refine blk_alloc ?_ _)); refine blk_put (cs := #[.slice none 0 0]) ?_ 0 _ rfl; (with_reducible repeat (first | refine blk_drewN ?_ _ | refine blk_drew ?_ | refine blk_alloc ?_ _)); exact BK311.out) hb); replace HB := Aside0.mk (below_step t19_ hb); (try clear hb); (try clear hb2); (try clear hk); (try clear hi); (try clear ho0)) | ((with_reducible refine gate_dst (N := 8) rfl ?_); refine boxE (N := 8) (cs := #[.slice none 0 0]) (t := 30) (h := ?_); intro gb315 hg w45 hbox hb; replace HO302 := Aside0.mk (Kd.R_below t26_ hb); replace HO309 := Aside0.mk (Kd.R_below t42_ hb); replace HO314 := Aside0.mk (Kd.R_below t49_ hb); have BK315 := Aside0.mk (hbox); have GW315 := Aside0.mk ((by rw [hg]; exact (below_size t19_) : w.heap.size ≤ gb315)); have GE315 := Aside0.mk ((by rw [hg]; exact (below_size t19_) : w.heap.size ≤ gb315)); replace HB := Aside0.mk (below_step t19_ hb); have NB296_315 := nbL BK296 hg; have NB315_296 := nbG BK296 hg; replace BK296 := bkN BK296 hb; have NB297_315 := nbL BK297 hg; have NB315_297 := nbG BK297 hg; replace BK297 := bkN BK297 hb; have NB311_315 := nbL BK311 hg; have NB315_311 := nbG BK311 hg; replace BK311 := bkN BK311 hb; clear hb hbox hg; obtain ⟨Ao46, co46, eo46⟩ := Kd.R_slice HO314.out; subst eo46; have hnb47 := NB315_296.out; have hnc47 := NB296_315.out; have hnb48 := NB315_297.out; have hnc48 := NB297_315.out; have hnb49 := NB315_311.out; have hnc49 := NB311_315.out; have hcz50_0 := bc0 BK315; have hfz50_0 := bf BK315 0))
      have n0_ : Aside0 (Kd.R k71 71 (w45.setCell ⟨gb315, 0, none⟩ (.slice Ao46 t312.length co46)) w.heap.size (fun k_ => some k_ ≠ (.slice Ao40 t307.length co40 : Value).ownBlock ∧ some k_ ≠ (.slice Ao46 t312.length co46 : Value).ownBlock) v301 t300) := ⟨by (with_reducible repeat (first | apply Kd.R_alloc | apply Kd.R_drewN | apply Kd.R_drew)); exact Kd.R_mono (Kd.R_far (p := ⟨gb315, 0, none⟩) (Kd.R_types HO302.out BK315.out (by decide)) (fun _ hk => hk.2) (.slice Ao46 t312.length co46)) (fun _ hk => ⟨hk.1.1, hk.1.2⟩)⟩
      have n1_ : Aside0 (Kd.R k71 71 (w45.setCell ⟨gb315, 0, none⟩ (.slice Ao46 t312.length co46)) w.heap.size (fun k_ => some k_ ≠ (v301 : Value).ownBlock ∧ some k_ ≠ (.slice Ao46 t312.length co46 : Value).ownBlock) (.slice Ao40 t307.length co40) t307) := ⟨by (with_reducible repeat (first | apply Kd.R_alloc | apply Kd.R_drewN | apply Kd.R_drew)); exact Kd.R_mono (Kd.R_far (p := ⟨gb315, 0, none⟩) (Kd.R_types HO309.out BK315.out (by decide)) (fun _ hk => hk.2) (.slice Ao46 t312.length co46)) (fun _ hk => ⟨hk.1.1, hk.1.2⟩)⟩
      have n2_ : Aside0 (Kd.R k71 71 (w45.setCell ⟨gb315, 0, none⟩ (.slice Ao46 t312.length co46)) w.heap.size (fun k_ => some k_ ≠ (v301 : Value).ownBlock ∧ some k_ ≠ (.slice Ao40 t307.length co40 : Value).ownBlock) (.slice Ao46 t312.length co46) t312) := ⟨by (with_reducible repeat (first | apply Kd.R_alloc | apply Kd.R_drewN | apply Kd.R_drew)); exact Kd.R_mono (Kd.R_far (p := ⟨gb315, 0, none⟩) (Kd.R_types HO314.out BK315.out (by decide)) (fun _ hk => hk.2) (.slice Ao46 t312.length co46)) (fun _ hk => ⟨hk.1.1.2, hk.1.2⟩)⟩
      have n3_ : Aside0 ((w45.setCell ⟨gb315, 0, none⟩ (.slice Ao46 t312.length co46)).heap[gb296]? = some (.cells #[.slice A0_0 l0_0.length c0_0] 24 (0, 0))) := ⟨by (with_reducible repeat (first | refine blk_drewN ?_ _ | refine blk_drew ?_ | refine blk_alloc ?_ _)); refine blk_far ?_ NB296_315.out _; (with_reducible repeat (first | refine blk_drewN ?_ _ | refine blk_drew ?_ | refine blk_alloc ?_ _)); exact BK296.out⟩
      have n4_ : Aside0 ((w45.setCell ⟨gb315, 0, none⟩ (.slice Ao46 t312.length co46)).heap[gb297]? = some (.cells #[.int .i64 a1_0, .string a1_1, .string a1_2, .string a1_3] 73 (0, 0))) := ⟨by (with_reducible repeat (first | refine blk_drewN ?_ _ | refine blk_drew ?_ | refine blk_alloc ?_ _)); refine blk_far ?_ NB297_315.out _; (with_reducible repeat (first | refine blk_drewN ?_ _ | refine blk_drew ?_ | refine blk_alloc ?_ _)); exact BK297.out⟩
      have n5_ : Aside0 ((w45.setCell ⟨gb315, 0, none⟩ (.slice Ao46 t312.length co46)).heap[gb311]? = some (.cells #[.slice Ao40 t307.length co40] 30 (0, 0))) := ⟨by (with_reducible repeat (first | refine blk_drewN ?_ _ | refine blk_drew ?_ | refine blk_alloc ?_ _)); refine blk_far ?_ NB311_315.out _; (with_reducible repeat (first | refine blk_drewN ?_ _ | refine blk_drew ?_ | refine blk_alloc ?_ _)); exact BK311.out⟩
      have n6_ : Aside0 ((w45.setCell ⟨gb315, 0, none⟩ (.slice Ao46 t312.length co46)).heap[gb315]? = some (.cells #[.slice Ao46 t312.length co46] 30 (0, 0))) := ⟨by (with_reducible repeat (first | refine blk_drewN ?_ _ | refine blk_drew ?_ | refine blk_alloc ?_ _)); refine blk_put (cs := #[.slice none 0 0]) ?_ 0 _ rfl; (with_reducible repeat (first | refine blk_drewN ?_ _ | refine blk_drew ?_ | refine blk_alloc ?_ _)); exact BK315.out⟩
      have n7_ : Aside0 (Below w.heap.size w (w45.setCell ⟨gb315, 0, none⟩ (.slice Ao46 t312.length co46))) := ⟨t21_⟩
      (try clear HO302)
      (try clear HO309)
      (try clear HO314)
      (try clear BK296)
      (try clear BK297)
      (try clear BK311)
      (try clear BK315)
      (try clear HB)
      generalize (w45.setCell ⟨gb315, 0, none⟩ (.slice Ao46 t312.length co46)) = w51 at n0_ n1_ n2_ n3_ n4_ n5_ n6_ n7_ ⊢
      have HO302 := n0_
      have HO309 := n1_
      have HO314 := n2_
      have BK296 := n3_
      have BK297 := n4_
      have BK311 := n5_
      have BK315 := n6_
      have HB := n7_
      clear n0_ n1_ n2_ n3_ n4_ n5_ n6_ n7_
      replace HO302 := Aside0.mk (Kd.R_drew HO302.out)
      replace HO309 := Aside0.mk (Kd.R_drew HO309.out)
      replace HO314 := Aside0.mk (Kd.R_drew HO314.out)
      replace BK296 := Aside0.mk (blk_drew BK296.out)
      replace BK297 := Aside0.mk (blk_drew BK297.out)
      replace BK311 := Aside0.mk (blk_drew BK311.out)
      replace BK315 := Aside0.mk (blk_drew BK315.out)
      replace HB := Aside0.mk (below_drew1 HB.out)
      refine start_ (n := 10) (S := fun w' => w'.cell? ⟨gb315, 0, none⟩ = some (.slice Ao46 t312.length co46) ∧ w'.cell? ⟨gb297, 0, none⟩ = some (.int .i64 a1_0) ∧ w'.cell? ⟨gb297, 1, none⟩ = some (.string a1_1) ∧ w'.cell? ⟨gb297, 2, none⟩ = some (.string a1_2) ∧ w'.cell? ⟨gb297, 3, none⟩ = some (.string a1_3)) (ds := []) #[false, false, false, false, false, false, false, false, false, false] (by kernel_rfl) rfl rfl ⟨bc0 BK315, bc0 BK297, bc1 BK297, bc2 BK297, bc3 BK297⟩ (fun hHeld => ?_); refine with_tabW laws_FnExactPutRaw.tab10 laws_FnExactPutRaw.bits10 (fun HT_ HW_ => ?_)
      generalize w51.drew = w52 at HO302 HO309 HO314 BK296 BK297 BK311 BK315 HB hHeld ⊢
      refine take_ (i := 0) (N := some 37) (v := ?_) (a' := ?_) #[true, false, false, false, false, false, false, false, false, false] rfl rfl (take_ofW HT_.out HW_.out (by kernel_rfl)) (fun _ _ _ h => h) (Or.inl ⟨by rfl, ?_⟩) hHeld ?_ ?_
      rotate_left
      · rintro w' ⟨s0, s1, s2, s3, s4⟩
        go_simp
        with_reducible rfl
      rotate_left
      · simp only [Act.put, List.setIfInBounds_toArray, List.set_cons_zero, List.set_cons_succ, i64_w, i32_w]
        rfl
      refine take_ (i := 1) (N := some 38) (v := ?_) (a' := ?_) #[true, true, false, false, false, false, false, false, false, false] rfl rfl (take_ofW HT_.out HW_.out (by kernel_rfl)) (fun _ _ _ h => h) (Or.inl ⟨by rfl, ?_⟩) hHeld ?_ ?_
      rotate_left
      · rintro w' ⟨s0, s1, s2, s3, s4⟩
        go_simp
        with_reducible rfl
      rotate_left
      · simp only [Act.put, List.setIfInBounds_toArray, List.set_cons_zero, List.set_cons_succ, i64_w, i32_w]
        rfl
      refine join_ (σ := Value × Nat) 2 #[true, true, true, true, true, true, true, true, false, false] (fun s_ => [(39, .agg #[.int .i64 t316, .string t317, .string t318, .string t319]), (40, .tuple #[.agg #[s_.1], .bool t323]), (9, .pointer (some ⟨s_.2, 0, none⟩)), (36, .tuple #[.agg #[s_.1], .bool t323]), (41, .agg #[s_.1]), (42, .bool t323)]) (fun s_ w' => (w'.cell? ⟨gb315, 0, none⟩ = some (.slice Ao46 t312.length co46) ∧ w'.cell? ⟨gb297, 0, none⟩ = some (.int .i64 a1_0) ∧ w'.cell? ⟨gb297, 1, none⟩ = some (.string a1_1) ∧ w'.cell? ⟨gb297, 2, none⟩ = some (.string a1_2) ∧ w'.cell? ⟨gb297, 3, none⟩ = some (.string a1_3)) ∧ (Kd.R k71 71 w' w.heap.size (fun k_ => some k_ ≠ (.slice Ao40 t307.length co40 : Value).ownBlock ∧ some k_ ≠ (.slice Ao46 t312.length co46 : Value).ownBlock ∧ some k_ ≠ (s_.1 : Value).ownBlock) v301 t300) ∧ (Kd.R k71 71 w' w.heap.size (fun k_ => some k_ ≠ (v301 : Value).ownBlock ∧ some k_ ≠ (.slice Ao46 t312.length co46 : Value).ownBlock ∧ some k_ ≠ (s_.1 : Value).ownBlock) (.slice Ao40 t307.length co40) t307) ∧ (Kd.R k71 71 w' w.heap.size (fun k_ => some k_ ≠ (v301 : Value).ownBlock ∧ some k_ ≠ (.slice Ao40 t307.length co40 : Value).ownBlock ∧ some k_ ≠ (s_.1 : Value).ownBlock) (.slice Ao46 t312.length co46) t312) ∧ (Kd.R k71 71 w' w.heap.size (fun k_ => some k_ ≠ (v301 : Value).ownBlock ∧ some k_ ≠ (.slice Ao40 t307.length co40 : Value).ownBlock ∧ some k_ ≠ (.slice Ao46 t312.length co46 : Value).ownBlock) s_.1 t320) ∧ (w'.heap[gb296]? = some (.cells #[.slice A0_0 l0_0.length c0_0] 24 (0, 0))) ∧ (w'.heap[gb297]? = some (.cells #[.int .i64 a1_0, .string a1_1, .string a1_2, .string a1_3] 73 (0, 0))) ∧ (w'.heap[gb311]? = some (.cells #[.slice Ao40 t307.length co40] 30 (0, 0))) ∧ (w'.heap[gb315]? = some (.cells #[.slice Ao46 t312.length co46] 30 (0, 0))) ∧ (w'.heap[s_.2]? = some (.cells #[.slice none 0 0] 30 (0, 0))) ∧ (w.heap.size ≤ s_.2) ∧ (w.heap.size ≤ s_.2) ∧ (gb296 ≠ s_.2) ∧ (s_.2 ≠ gb296) ∧ (gb297 ≠ s_.2) ∧ (s_.2 ≠ gb297) ∧ (gb311 ≠ s_.2) ∧ (s_.2 ≠ gb311) ∧ (gb315 ≠ s_.2) ∧ (s_.2 ≠ gb315) ∧ (Below w.heap.size w w')) ?_ ?_
      rotate_left
      · intro hCont
        refine two_ (i := 2) (j := 7) (Ni := some 39) (Nj := some 9) #[true, true, true, false, false, false, false, false, false, false] #[true, true, false, false, false, false, false, true, false, false] rfl rfl rfl rfl (two_of HT_.out (by kernel_rfl)) (by decide) (by decide) (fun K hK => ?_) (fun K hK => ?_)
        · skip
          refine goes_ Try.func37 (by kernel_rfl) rfl #[.agg #[.int .i64 a1_0, .string a1_1, .string a1_2, .string a1_3]] (by rfl) rfl rfl t2_ ?_
          with_reducible refine (laws_toRaw.calls a1_0 a1_1 a1_2 a1_3 t316 t317 t318 t319 _ A23.out).mono ?_
          rintro e w53 ⟨rfl, hb⟩
          refine ⟨_, rfl, ?_⟩
          replace HO302 := Aside0.mk (Kd.R_below t26_ hb)
          replace HO309 := Aside0.mk (Kd.R_below t42_ hb)
          replace HO314 := Aside0.mk (Kd.R_below t49_ hb)
          replace BK296 := bkN BK296 hb
          replace BK297 := bkN BK297 hb
          replace BK311 := bkN BK311 hb
          replace BK315 := bkN BK315 hb
          replace HB := Aside0.mk (below_step t21_ hb)
          (try clear hb)
          (try clear hb2)
          (try clear hk)
          (try clear hi)
          refine hK.out _ _ ⟨bc0 BK315, bc0 BK297, bc1 BK297, bc2 BK297, bc3 BK297⟩ (fun hHeld => ?_)
          clear hK K
          refine norm_ (a' := ?_) ?_ ?_
          rotate_left
          · show Act.put _ (some 39) _ = _
            simp only [Act.put, List.setIfInBounds_toArray, List.set_cons_zero, List.set_cons_succ, i64_w, i32_w]
            rfl
          refine two_ (i := 3) (j := 7) (Ni := some 40) (Nj := some 9) #[true, true, true, true, false, false, false, false, false, false] #[true, true, true, false, false, false, false, true, false, false] rfl rfl rfl rfl (two_of HT_.out (by kernel_rfl)) (by decide) (by decide) (fun K hK => ?_) (fun K hK => ?_)
          · skip
            refine goes_ Try.func38 (by kernel_rfl) rfl #[.agg #[.slice Ao46 t312.length co46], .agg #[.int .i64 t316, .string t317, .string t318, .string t319]] (by rfl) rfl rfl t2_ ?_
            with_reducible refine (impl_PutRaw.calls k _ _ t312 t316 t317 t318 t319 t320 t323 _ ?side1 ?side2 A24.out).mono ?_
            (case side1 => repeat (first | exact (Kd.R_reads' HO314.out).2.2 | (with_reducible refine Kd.C_alloc ?_ _) | (with_reducible refine Kd.C_drewN ?_ _) | (with_reducible refine Kd.C_drew ?_)))
            (case side2 => exact (Kd.R_reads' HO314.out).2.1)
            rintro e w54 ⟨v321, rfl, ho0, hb⟩
            refine ⟨_, rfl, ?_⟩
            have HO322 := Aside0.mk (Kd.R_lower (Kd.R_new' (Kd.R_new' (Kd.R_new' ho0 (Kd.R_lt t26_)) (Kd.R_lt t42_)) (Kd.R_lt t49_)) (below_size t21_))
            replace HO302 := Aside0.mk (Kd.R_elder' t26_ (Kd.R_base ho0) hb)
            replace HO309 := Aside0.mk (Kd.R_elder' t42_ (Kd.R_base ho0) hb)
            replace HO314 := Aside0.mk (Kd.R_elder' t49_ (Kd.R_base ho0) hb)
            replace BK296 := bkN BK296 hb
            replace BK297 := bkN BK297 hb
            replace BK311 := bkN BK311 hb
            replace BK315 := bkN BK315 hb
            replace HB := Aside0.mk (below_step t21_ hb)
            (try clear hb)
            (try clear hb2)
            (try clear hk)
            (try clear hi)
            (try clear ho0)
            refine hK.out _ _ ⟨bc0 BK315, bc0 BK297, bc1 BK297, bc2 BK297, bc3 BK297⟩ (fun hHeld => ?_)
            clear hK K
            refine norm_ (a' := ?_) ?_ ?_
            rotate_left
            · show Act.put _ (some 40) _ = _
              simp only [Act.put, List.setIfInBounds_toArray, List.set_cons_zero, List.set_cons_succ, i64_w, i32_w]
              rfl
            refine pure_ (i := 4) (N := some 36) (v := ?_) (a' := ?_) #[true, true, true, true, true, false, false, false, false, false] rfl rfl (any_of HT_.out (by kernel_rfl)) (fun _ _ _ h => h) (Or.inl ⟨by rfl, ?_⟩) ?_ ?_
            rotate_left
            · intro w'
              go_simp
              with_reducible rfl
            rotate_left
            · simp only [Act.put, List.setIfInBounds_toArray, List.set_cons_zero, List.set_cons_succ, i64_w, i32_w]
              rfl
            refine pure_ (i := 5) (N := some 41) (v := ?_) (a' := ?_) #[true, true, true, true, true, true, false, false, false, false] rfl rfl (any_of HT_.out (by kernel_rfl)) (fun _ _ _ h => h) (Or.inl ⟨by rfl, ?_⟩) ?_ ?_
            rotate_left
            · intro w'
              go_simp
              with_reducible rfl
            rotate_left
            · simp only [Act.put, List.setIfInBounds_toArray, List.set_cons_zero, List.set_cons_succ, i64_w, i32_w]
              rfl
            refine pure_ (i := 6) (N := some 42) (v := ?_) (a' := ?_) #[true, true, true, true, true, true, true, false, false, false] rfl rfl (any_of HT_.out (by kernel_rfl)) (fun _ _ _ h => h) (Or.inl ⟨by rfl, ?_⟩) ?_ ?_
            rotate_left
            · intro w'
              go_simp
              with_reducible rfl
            rotate_left
            · simp only [Act.put, List.setIfInBounds_toArray, List.set_cons_zero, List.set_cons_succ, i64_w, i32_w]
              rfl
            refine one_ (i := 7) (N := some 9) #[true, true, true, true, true, true, true, true, false, false] rfl rfl (one_of HT_.out (by kernel_rfl)) (by decide) (fun K hK => ?_)
            refine box_step ?hg (N := 9) ?hd (cs := #[.slice none 0 0]) (t := 30) ?hr ?_; (case hd => rfl); (case hg => rfl); (case hr => first | (go_simp; done) | (go_simp; rfl))
            intro gb324 hg w55 hbox hb
            replace HO302 := Aside0.mk (Kd.R_below t26_ hb)
            replace HO309 := Aside0.mk (Kd.R_below t42_ hb)
            replace HO314 := Aside0.mk (Kd.R_below t49_ hb)
            replace HO322 := Aside0.mk (Kd.R_below (by (with_reducible repeat (first | apply Kd.R_alloc | apply Kd.R_drewN | apply Kd.R_drew)); exact HO322.out) hb)
            have BK324 := Aside0.mk (hbox)
            have GW324 := Aside0.mk ((t33_ : w.heap.size ≤ gb324))
            have GE324 := Aside0.mk ((t33_ : w.heap.size ≤ gb324))
            replace HB := Aside0.mk (below_step t21_ hb)
            have NB296_324 := nbL BK296 hg
            have NB324_296 := nbG BK296 hg
            replace BK296 := bkN BK296 hb
            have NB297_324 := nbL BK297 hg
            have NB324_297 := nbG BK297 hg
            replace BK297 := bkN BK297 hb
            have NB311_324 := nbL BK311 hg
            have NB324_311 := nbG BK311 hg
            replace BK311 := bkN BK311 hb
            have NB315_324 := nbL BK315 hg
            have NB324_315 := nbG BK315 hg
            replace BK315 := bkN BK315 hb
            clear hb hbox hg
            refine hK.out _ _ ⟨bc0 BK315, bc0 BK297, bc1 BK297, bc2 BK297, bc3 BK297⟩ (fun hHeld => ?_)
            clear hK K
            refine norm_ (a' := ?_) ?_ ?_
            rotate_left
            · show Act.put _ (some 9) _ = _
              simp only [Act.put, List.setIfInBounds_toArray, List.set_cons_zero, List.set_cons_succ, i64_w, i32_w]
              rfl
            exact norm_ t53_ (hCont (v321, gb324) _ ⟨hHeld, (by (with_reducible repeat (first | apply Kd.R_alloc | apply Kd.R_drewN | apply Kd.R_drew)); exact Kd.R_mono HO302.out (fun _ hk => ⟨hk.1.1, ⟨hk.1.2, hk.2⟩⟩)), (by (with_reducible repeat (first | apply Kd.R_alloc | apply Kd.R_drewN | apply Kd.R_drew)); exact Kd.R_mono HO309.out (fun _ hk => ⟨hk.1.1, ⟨hk.1.2, hk.2⟩⟩)), (by (with_reducible repeat (first | apply Kd.R_alloc | apply Kd.R_drewN | apply Kd.R_drew)); exact Kd.R_mono HO314.out (fun _ hk => ⟨hk.1.1, ⟨hk.1.2, hk.2⟩⟩)), (by (with_reducible repeat (first | apply Kd.R_alloc | apply Kd.R_drewN | apply Kd.R_drew)); exact Kd.R_mono HO322.out (fun _ hk => ⟨hk.1.1.2, ⟨hk.1.2, hk.2⟩⟩)), t34_, t35_, t36_, t51_, t52_, GW324.out, GE324.out, NB296_324.out, NB324_296.out, NB297_324.out, NB324_297.out, NB311_324.out, NB324_311.out, NB315_324.out, NB324_315.out, t7_⟩)
          · skip
            refine box_step ?hg (N := 9) ?hd (cs := #[.slice none 0 0]) (t := 30) ?hr ?_; (case hd => rfl); (case hg => rfl); (case hr => first | (go_simp; done) | (go_simp; rfl))
            intro gb324 hg w54 hbox hb
            replace HO302 := Aside0.mk (Kd.R_below t26_ hb)
            replace HO309 := Aside0.mk (Kd.R_below t42_ hb)
            replace HO314 := Aside0.mk (Kd.R_below t49_ hb)
            have BK324 := Aside0.mk (hbox)
            have GW324 := Aside0.mk ((t33_ : w.heap.size ≤ gb324))
            have GE324 := Aside0.mk ((t33_ : w.heap.size ≤ gb324))
            replace HB := Aside0.mk (below_step t21_ hb)
            have NB296_324 := nbL BK296 hg
            have NB324_296 := nbG BK296 hg
            replace BK296 := bkN BK296 hb
            have NB297_324 := nbL BK297 hg
            have NB324_297 := nbG BK297 hg
            replace BK297 := bkN BK297 hb
            have NB311_324 := nbL BK311 hg
            have NB324_311 := nbG BK311 hg
            replace BK311 := bkN BK311 hb
            have NB315_324 := nbL BK315 hg
            have NB324_315 := nbG BK315 hg
            replace BK315 := bkN BK315 hb
            clear hb hbox hg
            refine hK.out _ _ ⟨bc0 BK315, bc0 BK297, bc1 BK297, bc2 BK297, bc3 BK297⟩ (fun hHeld => ?_)
            clear hK K
            refine norm_ (a' := ?_) ?_ ?_
            rotate_left
            · show Act.put _ (some 9) _ = _
              simp only [Act.put, List.setIfInBounds_toArray, List.set_cons_zero, List.set_cons_succ, i64_w, i32_w]
              rfl
            refine one_ (i := 3) (N := some 40) #[true, true, true, true, false, false, false, true, false, false] rfl rfl (one_of HT_.out (by kernel_rfl)) (by decide) (fun K hK => ?_)
            refine goes_ Try.func38 (by kernel_rfl) rfl #[.agg #[.slice Ao46 t312.length co46], .agg #[.int .i64 t316, .string t317, .string t318, .string t319]] (by rfl) rfl rfl t2_ ?_
            with_reducible refine (impl_PutRaw.calls k _ _ t312 t316 t317 t318 t319 t320 t323 _ ?side1 ?side2 A24.out).mono ?_
            (case side1 => repeat (first | exact (Kd.R_reads' HO314.out).2.2 | (with_reducible refine Kd.C_alloc ?_ _) | (with_reducible refine Kd.C_drewN ?_ _) | (with_reducible refine Kd.C_drew ?_)))
            (case side2 => exact (Kd.R_reads' HO314.out).2.1)
            rintro e w55 ⟨v321, rfl, ho0, hb⟩
            refine ⟨_, rfl, ?_⟩
            have HO322 := Aside0.mk (Kd.R_lower (Kd.R_new' (Kd.R_new' (Kd.R_new' ho0 (Kd.R_lt t26_)) (Kd.R_lt t42_)) (Kd.R_lt t49_)) (below_size t7_))
            replace HO302 := Aside0.mk (Kd.R_elder' t26_ (Kd.R_base ho0) hb)
            replace HO309 := Aside0.mk (Kd.R_elder' t42_ (Kd.R_base ho0) hb)
            replace HO314 := Aside0.mk (Kd.R_elder' t49_ (Kd.R_base ho0) hb)
            replace BK296 := bkN BK296 hb
            replace BK297 := bkN BK297 hb
            replace BK311 := bkN BK311 hb
            replace BK315 := bkN BK315 hb
            replace BK324 := bkN BK324 hb
            replace HB := Aside0.mk (below_step t7_ hb)
            (try clear hb)
            (try clear hb2)
            (try clear hk)
            (try clear hi)
            (try clear ho0)
            refine hK.out _ _ ⟨bc0 BK315, bc0 BK297, bc1 BK297, bc2 BK297, bc3 BK297⟩ (fun hHeld => ?_)
            clear hK K
            refine norm_ (a' := ?_) ?_ ?_
            rotate_left
            · show Act.put _ (some 40) _ = _
              simp only [Act.put, List.setIfInBounds_toArray, List.set_cons_zero, List.set_cons_succ, i64_w, i32_w]
              rfl
            refine pure_ (i := 4) (N := some 36) (v := ?_) (a' := ?_) #[true, true, true, true, true, false, false, true, false, false] rfl rfl (any_of HT_.out (by kernel_rfl)) (fun _ _ _ h => h) (Or.inl ⟨by rfl, ?_⟩) ?_ ?_
            rotate_left
            · intro w'
              go_simp
              with_reducible rfl
            rotate_left
            · simp only [Act.put, List.setIfInBounds_toArray, List.set_cons_zero, List.set_cons_succ, i64_w, i32_w]
              rfl
            refine pure_ (i := 5) (N := some 41) (v := ?_) (a' := ?_) #[true, true, true, true, true, true, false, true, false, false] rfl rfl (any_of HT_.out (by kernel_rfl)) (fun _ _ _ h => h) (Or.inl ⟨by rfl, ?_⟩) ?_ ?_
            rotate_left
            · intro w'
              go_simp
              with_reducible rfl
            rotate_left
            · simp only [Act.put, List.setIfInBounds_toArray, List.set_cons_zero, List.set_cons_succ, i64_w, i32_w]
              rfl
            refine pure_ (i := 6) (N := some 42) (v := ?_) (a' := ?_) #[true, true, true, true, true, true, true, true, false, false] rfl rfl (any_of HT_.out (by kernel_rfl)) (fun _ _ _ h => h) (Or.inl ⟨by rfl, ?_⟩) ?_ ?_
            rotate_left
            · intro w'
              go_simp
              with_reducible rfl
            rotate_left
            · simp only [Act.put, List.setIfInBounds_toArray, List.set_cons_zero, List.set_cons_succ, i64_w, i32_w]
              rfl
            exact norm_ t53_ (hCont (v321, gb324) _ ⟨hHeld, (by (with_reducible repeat (first | apply Kd.R_alloc | apply Kd.R_drewN | apply Kd.R_drew)); exact Kd.R_mono HO302.out (fun _ hk => ⟨hk.1.1, ⟨hk.1.2, hk.2⟩⟩)), (by (with_reducible repeat (first | apply Kd.R_alloc | apply Kd.R_drewN | apply Kd.R_drew)); exact Kd.R_mono HO309.out (fun _ hk => ⟨hk.1.1, ⟨hk.1.2, hk.2⟩⟩)), (by (with_reducible repeat (first | apply Kd.R_alloc | apply Kd.R_drewN | apply Kd.R_drew)); exact Kd.R_mono HO314.out (fun _ hk => ⟨hk.1.1, ⟨hk.1.2, hk.2⟩⟩)), (by (with_reducible repeat (first | apply Kd.R_alloc | apply Kd.R_drewN | apply Kd.R_drew)); exact Kd.R_mono HO322.out (fun _ hk => ⟨hk.1.1.2, ⟨hk.1.2, hk.2⟩⟩)), t34_, t35_, t36_, t51_, t52_, GW324.out, GE324.out, NB296_324.out, NB324_296.out, NB297_324.out, NB324_297.out, NB311_324.out, NB324_311.out, NB315_324.out, NB324_315.out, t7_⟩)
        · skip
          refine box_step ?hg (N := 9) ?hd (cs := #[.slice none 0 0]) (t := 30) ?hr ?_; (case hd => rfl); (case hg => rfl); (case hr => first | (go_simp; done) | (go_simp; rfl))
          intro gb324 hg w53 hbox hb
          replace HO302 := Aside0.mk (Kd.R_below t26_ hb)
          replace HO309 := Aside0.mk (Kd.R_below t42_ hb)
          replace HO314 := Aside0.mk (Kd.R_below t49_ hb)
          have BK324 := Aside0.mk (hbox)
          have GW324 := Aside0.mk ((t33_ : w.heap.size ≤ gb324))
          have GE324 := Aside0.mk ((t33_ : w.heap.size ≤ gb324))
          replace HB := Aside0.mk (below_step t21_ hb)
          have NB296_324 := nbL BK296 hg
          have NB324_296 := nbG BK296 hg
          replace BK296 := bkN BK296 hb
          have NB297_324 := nbL BK297 hg
          have NB324_297 := nbG BK297 hg
          replace BK297 := bkN BK297 hb
          have NB311_324 := nbL BK311 hg
          have NB324_311 := nbG BK311 hg
          replace BK311 := bkN BK311 hb
          have NB315_324 := nbL BK315 hg
          have NB324_315 := nbG BK315 hg
          replace BK315 := bkN BK315 hb
          clear hb hbox hg
          refine hK.out _ _ ⟨bc0 BK315, bc0 BK297, bc1 BK297, bc2 BK297, bc3 BK297⟩ (fun hHeld => ?_)
          clear hK K
          refine norm_ (a' := ?_) ?_ ?_
          rotate_left
          · show Act.put _ (some 9) _ = _
            simp only [Act.put, List.setIfInBounds_toArray, List.set_cons_zero, List.set_cons_succ, i64_w, i32_w]
            rfl
          refine one_ (i := 2) (N := some 39) #[true, true, true, false, false, false, false, true, false, false] rfl rfl (one_of HT_.out (by kernel_rfl)) (by decide) (fun K hK => ?_)
          refine goes_ Try.func37 (by kernel_rfl) rfl #[.agg #[.int .i64 a1_0, .string a1_1, .string a1_2, .string a1_3]] (by rfl) rfl rfl t2_ ?_
          with_reducible refine (laws_toRaw.calls a1_0 a1_1 a1_2 a1_3 t316 t317 t318 t319 _ A23.out).mono ?_
          rintro e w54 ⟨rfl, hb⟩
          refine ⟨_, rfl, ?_⟩
          replace HO302 := Aside0.mk (Kd.R_below t26_ hb)
          replace HO309 := Aside0.mk (Kd.R_below t42_ hb)
          replace HO314 := Aside0.mk (Kd.R_below t49_ hb)
          replace BK296 := bkN BK296 hb
          replace BK297 := bkN BK297 hb
          replace BK311 := bkN BK311 hb
          replace BK315 := bkN BK315 hb
          replace BK324 := bkN BK324 hb
          replace HB := Aside0.mk (below_step t7_ hb)
          (try clear hb)
          (try clear hb2)
          (try clear hk)
          (try clear hi)
          refine hK.out _ _ ⟨bc0 BK315, bc0 BK297, bc1 BK297, bc2 BK297, bc3 BK297⟩ (fun hHeld => ?_)
          clear hK K
          refine norm_ (a' := ?_) ?_ ?_
          rotate_left
          · show Act.put _ (some 39) _ = _
            simp only [Act.put, List.setIfInBounds_toArray, List.set_cons_zero, List.set_cons_succ, i64_w, i32_w]
            rfl
          refine one_ (i := 3) (N := some 40) #[true, true, true, true, false, false, false, true, false, false] rfl rfl (one_of HT_.out (by kernel_rfl)) (by decide) (fun K hK => ?_)
          refine goes_ Try.func38 (by kernel_rfl) rfl #[.agg #[.slice Ao46 t312.length co46], .agg #[.int .i64 t316, .string t317, .string t318, .string t319]] (by rfl) rfl rfl t2_ ?_
          with_reducible refine (impl_PutRaw.calls k _ _ t312 t316 t317 t318 t319 t320 t323 _ ?side1 ?side2 A24.out).mono ?_
          (case side1 => repeat (first | exact (Kd.R_reads' HO314.out).2.2 | (with_reducible refine Kd.C_alloc ?_ _) | (with_reducible refine Kd.C_drewN ?_ _) | (with_reducible refine Kd.C_drew ?_)))
          (case side2 => exact (Kd.R_reads' HO314.out).2.1)
          rintro e w55 ⟨v321, rfl, ho0, hb⟩
          refine ⟨_, rfl, ?_⟩
          have HO322 := Aside0.mk (Kd.R_lower (Kd.R_new' (Kd.R_new' (Kd.R_new' ho0 (Kd.R_lt t26_)) (Kd.R_lt t42_)) (Kd.R_lt t49_)) (below_size t7_))
          replace HO302 := Aside0.mk (Kd.R_elder' t26_ (Kd.R_base ho0) hb)
          replace HO309 := Aside0.mk (Kd.R_elder' t42_ (Kd.R_base ho0) hb)
          replace HO314 := Aside0.mk (Kd.R_elder' t49_ (Kd.R_base ho0) hb)
          replace BK296 := bkN BK296 hb
          replace BK297 := bkN BK297 hb
          replace BK311 := bkN BK311 hb
          replace BK315 := bkN BK315 hb
          replace BK324 := bkN BK324 hb
          replace HB := Aside0.mk (below_step t7_ hb)
          (try clear hb)
          (try clear hb2)
          (try clear hk)
          (try clear hi)
          (try clear ho0)
          refine hK.out _ _ ⟨bc0 BK315, bc0 BK297, bc1 BK297, bc2 BK297, bc3 BK297⟩ (fun hHeld => ?_)
          clear hK K
          refine norm_ (a' := ?_) ?_ ?_
          rotate_left
          · show Act.put _ (some 40) _ = _
            simp only [Act.put, List.setIfInBounds_toArray, List.set_cons_zero, List.set_cons_succ, i64_w, i32_w]
            rfl
          refine pure_ (i := 4) (N := some 36) (v := ?_) (a' := ?_) #[true, true, true, true, true, false, false, true, false, false] rfl rfl (any_of HT_.out (by kernel_rfl)) (fun _ _ _ h => h) (Or.inl ⟨by rfl, ?_⟩) ?_ ?_
          rotate_left
          · intro w'
            go_simp
            with_reducible rfl
          rotate_left
          · simp only [Act.put, List.setIfInBounds_toArray, List.set_cons_zero, List.set_cons_succ, i64_w, i32_w]
            rfl
          refine pure_ (i := 5) (N := some 41) (v := ?_) (a' := ?_) #[true, true, true, true, true, true, false, true, false, false] rfl rfl (any_of HT_.out (by kernel_rfl)) (fun _ _ _ h => h) (Or.inl ⟨by rfl, ?_⟩) ?_ ?_
          rotate_left
          · intro w'
            go_simp
            with_reducible rfl
          rotate_left
          · simp only [Act.put, List.setIfInBounds_toArray, List.set_cons_zero, List.set_cons_succ, i64_w, i32_w]
            rfl
          refine pure_ (i := 6) (N := some 42) (v := ?_) (a' := ?_) #[true, true, true, true, true, true, true, true, false, false] rfl rfl (any_of HT_.out (by kernel_rfl)) (fun _ _ _ h => h) (Or.inl ⟨by rfl, ?_⟩) ?_ ?_
          rotate_left
          · intro w'
            go_simp
            with_reducible rfl
          rotate_left
          · simp only [Act.put, List.setIfInBounds_toArray, List.set_cons_zero, List.set_cons_succ, i64_w, i32_w]
            rfl
          exact norm_ t53_ (hCont (v321, gb324) _ ⟨hHeld, (by (with_reducible repeat (first | apply Kd.R_alloc | apply Kd.R_drewN | apply Kd.R_drew)); exact Kd.R_mono HO302.out (fun _ hk => ⟨hk.1.1, ⟨hk.1.2, hk.2⟩⟩)), (by (with_reducible repeat (first | apply Kd.R_alloc | apply Kd.R_drewN | apply Kd.R_drew)); exact Kd.R_mono HO309.out (fun _ hk => ⟨hk.1.1, ⟨hk.1.2, hk.2⟩⟩)), (by (with_reducible repeat (first | apply Kd.R_alloc | apply Kd.R_drewN | apply Kd.R_drew)); exact Kd.R_mono HO314.out (fun _ hk => ⟨hk.1.1, ⟨hk.1.2, hk.2⟩⟩)), (by (with_reducible repeat (first | apply Kd.R_alloc | apply Kd.R_drewN | apply Kd.R_drew)); exact Kd.R_mono HO322.out (fun _ hk => ⟨hk.1.1.2, ⟨hk.1.2, hk.2⟩⟩)), t34_, t35_, t36_, t51_, t52_, GW324.out, GE324.out, NB296_324.out, NB324_296.out, NB297_324.out, NB324_297.out, NB311_324.out, NB324_311.out, NB315_324.out, NB324_315.out, t7_⟩)
      rintro ⟨v321, gb324⟩ w56 ⟨hS_, h0_, h1_, h2_, h3_, h4_, h5_, h6_, h7_, h8_, h9_, h10_, h11_, h12_, h13_, h14_, h15_, h16_, h17_, h18_, h19_⟩
      have n0_ : Aside0 (Kd.R k71 71 w56 w.heap.size (fun k_ => some k_ ≠ (.slice Ao40 t307.length co40 : Value).ownBlock ∧ some k_ ≠ (.slice Ao46 t312.length co46 : Value).ownBlock ∧ some k_ ≠ (v321 : Value).ownBlock) v301 t300) := ⟨h0_⟩
      have n1_ : Aside0 (Kd.R k71 71 w56 w.heap.size (fun k_ => some k_ ≠ (v301 : Value).ownBlock ∧ some k_ ≠ (.slice Ao46 t312.length co46 : Value).ownBlock ∧ some k_ ≠ (v321 : Value).ownBlock) (.slice Ao40 t307.length co40) t307) := ⟨h1_⟩
      have n2_ : Aside0 (Kd.R k71 71 w56 w.heap.size (fun k_ => some k_ ≠ (v301 : Value).ownBlock ∧ some k_ ≠ (.slice Ao40 t307.length co40 : Value).ownBlock ∧ some k_ ≠ (v321 : Value).ownBlock) (.slice Ao46 t312.length co46) t312) := ⟨h2_⟩
      have n3_ : Aside0 (Kd.R k71 71 w56 w.heap.size (fun k_ => some k_ ≠ (v301 : Value).ownBlock ∧ some k_ ≠ (.slice Ao40 t307.length co40 : Value).ownBlock ∧ some k_ ≠ (.slice Ao46 t312.length co46 : Value).ownBlock) v321 t320) := ⟨h3_⟩
      have n4_ : Aside0 (w56.heap[gb296]? = some (.cells #[.slice A0_0 l0_0.length c0_0] 24 (0, 0))) := ⟨h4_⟩
      have n5_ : Aside0 (w56.heap[gb297]? = some (.cells #[.int .i64 a1_0, .string a1_1, .string a1_2, .string a1_3] 73 (0, 0))) := ⟨h5_⟩
      have n6_ : Aside0 (w56.heap[gb311]? = some (.cells #[.slice Ao40 t307.length co40] 30 (0, 0))) := ⟨h6_⟩
      have n7_ : Aside0 (w56.heap[gb315]? = some (.cells #[.slice Ao46 t312.length co46] 30 (0, 0))) := ⟨h7_⟩
      have n8_ : Aside0 (w56.heap[gb324]? = some (.cells #[.slice none 0 0] 30 (0, 0))) := ⟨h8_⟩
      have n9_ : Aside0 (w.heap.size ≤ gb324) := ⟨h9_⟩
      have n10_ : Aside0 (w.heap.size ≤ gb324) := ⟨h10_⟩
      have n11_ : Aside0 (gb296 ≠ gb324) := ⟨h11_⟩
      have n12_ : Aside0 (gb324 ≠ gb296) := ⟨h12_⟩
      have n13_ : Aside0 (gb297 ≠ gb324) := ⟨h13_⟩
      have n14_ : Aside0 (gb324 ≠ gb297) := ⟨h14_⟩
      have n15_ : Aside0 (gb311 ≠ gb324) := ⟨h15_⟩
      have n16_ : Aside0 (gb324 ≠ gb311) := ⟨h16_⟩
      have n17_ : Aside0 (gb315 ≠ gb324) := ⟨h17_⟩
      have n18_ : Aside0 (gb324 ≠ gb315) := ⟨h18_⟩
      have n19_ : Aside0 (Below w.heap.size w w56) := ⟨h19_⟩
      clear HO302
      clear HO309
      clear HO314
      clear BK296
      clear BK297
      clear BK311
      clear BK315
      clear HB
      clear h0_ h1_ h2_ h3_ h4_ h5_ h6_ h7_ h8_ h9_ h10_ h11_ h12_ h13_ h14_ h15_ h16_ h17_ h18_ h19_
      have HO302 := n0_
      have HO309 := n1_
      have HO314 := n2_
      have HO322 := n3_
      have BK296 := n4_
      have BK297 := n5_
      have BK311 := n6_
      have BK315 := n7_
      have BK324 := n8_
      have GW324 := n9_
      have GE324 := n10_
      have NB296_324 := n11_
      have NB324_296 := n12_
      have NB297_324 := n13_
      have NB324_297 := n14_
      have NB311_324 := n15_
      have NB324_311 := n16_
      have NB315_324 := n17_
      have NB324_315 := n18_
      have HB := n19_
      clear n0_ n1_ n2_ n3_ n4_ n5_ n6_ n7_ n8_ n9_ n10_ n11_ n12_ n13_ n14_ n15_ n16_ n17_ n18_ n19_
      have hHeld : w56.cell? ⟨gb315, 0, none⟩ = some (.slice Ao46 t312.length co46) ∧ w56.cell? ⟨gb297, 0, none⟩ = some (.int .i64 a1_0) ∧ w56.cell? ⟨gb297, 1, none⟩ = some (.string a1_1) ∧ w56.cell? ⟨gb297, 2, none⟩ = some (.string a1_2) ∧ w56.cell? ⟨gb297, 3, none⟩ = some (.string a1_3) := hS_
      obtain ⟨Ao57, co57, eo57⟩ := Kd.R_slice HO322.out
      (first | subst eo57 | (injection eo57 with f1_ f2_ f3_; have f4_ := f1_.symm; have f5_ := f3_.symm; clear f1_ f2_ f3_; subst f4_; subst f5_))
      refine norm_ (a' := ?_) ?_ ?_
      rotate_left
      · simp only [putAll, Act.put, List.setIfInBounds_toArray, List.set_cons_zero, List.set_cons_succ]
        rfl
      refine one_ (i := 8) (N := none) #[true, true, true, true, true, true, true, true, true, false] rfl rfl (one_of HT_.out (by kernel_rfl)) (by decide) (fun K hK => ?_)
      have hs58 : w56.cell? ⟨gb324, 0, none⟩ = some (.slice none 0 0) := bc0 BK324
      have hfs58 := bf BK324 0
      have hns58_0 := NB296_324.out
      have hns58_1 := NB297_324.out
      have hns58_2 := NB311_324.out
      have hns58_3 := NB315_324.out
      have hms58_0 := NB324_296.out
      have hms58_1 := NB324_297.out
      have hms58_2 := NB324_311.out
      have hms58_3 := NB324_315.out
      refine skip_ (w1 := ?_) (by rfl) rfl ?_ ?_
      rotate_left
      · go_simp
        rfl
      refine hK.out _ _ ⟨((cell_far (p := ⟨gb324, _, none⟩) NB315_324.out _).trans (hHeld.1)), ((cell_far (p := ⟨gb324, _, none⟩) NB297_324.out _).trans (hHeld.2.1)), ((cell_far (p := ⟨gb324, _, none⟩) NB297_324.out _).trans (hHeld.2.2.1)), ((cell_far (p := ⟨gb324, _, none⟩) NB297_324.out _).trans (hHeld.2.2.2.1)), ((cell_far (p := ⟨gb324, _, none⟩) NB297_324.out _).trans (hHeld.2.2.2.2))⟩ (fun hHeld => ?_)
      clear hK K
      refine pure_ (i := 9) (N := some 10) (v := ?_) (a' := ?_) #[true, true, true, true, true, true, true, true, true, true] rfl rfl (any_of HT_.out (by kernel_rfl)) (fun _ _ _ h => h) (Or.inl ⟨by rfl, ?_⟩) ?_ ?_
      rotate_left
      · intro w'
        go_simp
        with_reducible rfl
      rotate_left
      · simp only [Act.put, List.setIfInBounds_toArray, List.set_cons_zero, List.set_cons_succ, i64_w, i32_w]
        rfl
      refine done_ (done_of HT_.out (by kernel_rfl)) ?_
      go_upto_region 11 with (fail)
      go_cut [51] (fun v51 wc => ∃ (kq : Nat) (x51_24 : Bool), v51 = .bool x51_24 ∧ Aside0 (laws_FnExactPutRaw.j0 kq t310 t323 x51_24 l0_0 a1_0 a1_1 a1_2 a1_3 t307 t312 t320 = some r) ∧ Aside0 (kq ≤ k) ∧ Aside0 (Kd.R k71 71 wc w.heap.size (fun k_ => some k_ ≠ ((.slice Ao46 t312.length co46) : Value).ownBlock ∧ some k_ ≠ ((.slice Ao57 t320.length co57) : Value).ownBlock) (.slice Ao40 t307.length co40) t307) ∧ Aside0 (Kd.R k71 71 wc w.heap.size (fun k_ => some k_ ≠ ((.slice Ao40 t307.length co40) : Value).ownBlock ∧ some k_ ≠ ((.slice Ao57 t320.length co57) : Value).ownBlock) (.slice Ao46 t312.length co46) t312) ∧ Aside0 (Kd.R k71 71 wc w.heap.size (fun k_ => some k_ ≠ ((.slice Ao40 t307.length co40) : Value).ownBlock ∧ some k_ ≠ ((.slice Ao46 t312.length co46) : Value).ownBlock) (.slice Ao57 t320.length co57) t320) ∧ Aside0 (wc.heap[gb296]? = some (.cells #[(.slice A0_0 l0_0.length c0_0)] 24 (0, 0))) ∧ Aside0 (wc.heap[gb297]? = some (.cells #[.int .i64 a1_0, .string a1_1, .string a1_2, .string a1_3] 73 (0, 0))) ∧ Aside0 (wc.heap[gb311]? = some (.cells #[(.slice Ao40 t307.length co40)] 30 (0, 0))) ∧ Aside0 (wc.heap[gb315]? = some (.cells #[(.slice Ao46 t312.length co46)] 30 (0, 0))) ∧ Aside0 (wc.heap[gb324]? = some (.cells #[(.slice Ao57 t320.length co57)] 30 (0, 0))) ∧ Aside0 (Below w.heap.size w wc))
      case first =>
        have H := HC25.out
        clear HC25
        replace H := Option.bind_eq_some_iff.mp H
        obtain ⟨t325, A590, H⟩ := H
        replace H : (if t325 = true then (laws_FnExactPutRaw.j0 k t310 t323 (t323 != t310) l0_0 a1_0 a1_1 a1_2 a1_3 t307 t312 t320) else (laws_FnExactPutRaw.j0 k t310 t323 true l0_0 a1_0 a1_1 a1_2 a1_3 t307 t312 t320)) = some r := H
        have A59 := Aside0.mk A590
        clear A590
        by_cases c60 : t325 = true
        · subst c60
          have H1 : (laws_FnExactPutRaw.j0 k t310 t323 (t323 != t310) l0_0 a1_0 a1_1 a1_2 a1_3 t307 t312 t320) = some r := by rw [if_pos rfl] at H; exact H
          clear H
          have H := H1
          clear H1
          have H' := Aside0.mk H
          clear H
          have hnb61 := NB324_296.out
          have hnc61 := NB296_324.out
          have hnb62 := NB324_297.out
          have hnc62 := NB297_324.out
          have hnb63 := NB324_311.out
          have hnc63 := NB311_324.out
          have hnb64 := NB324_315.out
          have hnc64 := NB315_324.out
          have hcz65_0 := bc0 BK324
          have hfz65_0 := bf BK324 0
          have hnb66 := NB311_296.out
          have hnc66 := NB296_311.out
          have hnb67 := NB311_297.out
          have hnc67 := NB297_311.out
          have hnb68 := NB311_315.out
          have hnc68 := NB315_311.out
          have hcz69_0 := bc0 BK311
          have hfz69_0 := bf BK311 0
          go_wp2_with (first | ((with_reducible refine gate_callee (f := 17) rfl ?_); refine goesL_ (some 45) rfl rfl Try.func17 (by kernel_rfl) rfl #[.agg #[.slice Ao57 t320.length co57], .agg #[.slice Ao40 t307.length co40]] rfl t2_ ?_; (with_reducible refine (laws_eqDisk.calls k _ _ t320 _ _ t307 true _ ?side1 ?side2 ?side3 ?side4 A59.out).mono ?_); (case side1 => refine (Kd.R_reads' (e := 71) (base := w.heap.size) (ok := fun k_ => (some k_ ≠ (v301 : Value).ownBlock ∧ (some k_ ≠ (.slice Ao40 t307.length co40 : Value).ownBlock ∧ some k_ ≠ (.slice Ao46 t312.length co46 : Value).ownBlock))) (n := t320.length) (c := co57) ?_).2.2; exact (by (with_reducible repeat (first | apply Kd.R_alloc | apply Kd.R_drewN | apply Kd.R_drew)); exact (Kd.R_mono (Kd.R_far (p := ⟨gb324, 0, none⟩) (Kd.R_types HO322.out BK324.out (by decide)) (fun _ hk => hk.2) (.slice Ao57 t320.length co57)) (fun _ h_ => h_.1)))); (case side2 => exact (Kd.R_reads' HO322.out).2.1); (case side3 => refine (Kd.R_reads' (e := 71) (base := w.heap.size) (ok := fun k_ => (some k_ ≠ (v301 : Value).ownBlock ∧ (some k_ ≠ (.slice Ao46 t312.length co46 : Value).ownBlock ∧ some k_ ≠ (.slice Ao57 t320.length co57 : Value).ownBlock))) (n := t307.length) (c := co40) ?_).2.2; exact (by (with_reducible repeat (first | apply Kd.R_alloc | apply Kd.R_drewN | apply Kd.R_drew)); exact (Kd.R_mono (Kd.R_far (p := ⟨gb324, 0, none⟩) (Kd.R_types HO309.out BK324.out (by decide)) (fun _ hk => hk.2) (.slice Ao57 t320.length co57)) (fun _ h_ => h_.1)))); (case side4 => exact (Kd.R_reads' HO309.out).2.1); rintro e w70 ⟨rfl, hb⟩; refine ⟨_, rfl, ?_⟩; replace HO302 := Aside0.mk (Kd.R_below (by (with_reducible repeat (first | apply Kd.R_alloc | apply Kd.R_drewN | apply Kd.R_drew)); exact (Kd.R_mono (Kd.R_far (p := ⟨gb324, 0, none⟩) (Kd.R_types HO302.out BK324.out (by decide)) (fun _ hk => hk.2) (.slice Ao57 t320.length co57)) (fun _ h_ => h_.1))) hb); replace HO309 := Aside0.mk (Kd.R_below (by (with_reducible repeat (first | apply Kd.R_alloc | apply Kd.R_drewN | apply Kd.R_drew)); exact (Kd.R_mono (Kd.R_far (p := ⟨gb324, 0, none⟩) (Kd.R_types HO309.out BK324.out (by decide)) (fun _ hk => hk.2) (.slice Ao57 t320.length co57)) (fun _ h_ => h_.1))) hb); replace HO314 := Aside0.mk (Kd.R_below (by (with_reducible repeat (first | apply Kd.R_alloc | apply Kd.R_drewN | apply Kd.R_drew)); exact (Kd.R_mono (Kd.R_far (p := ⟨gb324, 0, none⟩) (Kd.R_types HO314.out BK324.out (by decide)) (fun _ hk => hk.2) (.slice Ao57 t320.length co57)) (fun _ h_ => h_.1))) hb); replace HO322 := Aside0.mk (Kd.R_below (by (with_reducible repeat (first | apply Kd.R_alloc | apply Kd.R_drewN | apply Kd.R_drew)); exact (Kd.R_mono (Kd.R_far (p := ⟨gb324, 0, none⟩) (Kd.R_types HO322.out BK324.out (by decide)) (fun _ hk => hk.2) (.slice Ao57 t320.length co57)) (fun _ h_ => h_.1))) hb); replace BK296 := bkF BK296 NB296_324 hb; replace BK297 := bkF BK297 NB297_324 hb; replace BK311 := bkF BK311 NB311_324 hb; replace BK315 := bkF BK315 NB315_324 hb; replace BK324 := Aside0.mk (blk_below (g := gb324) (o := .cells #[.slice Ao57 t320.length co57] 30 (0, 0)) (by (with_reducible repeat (first | refine blk_drewN ?_ _ | refine blk_drew ?_ | refine blk_alloc ?_ _)); refine blk_put (cs := #[.slice none 0 0]) ?_ 0 _ rfl; (with_reducible repeat (first | refine blk_drewN ?_ _ | refine blk_drew ?_ | refine blk_alloc ?_ _)); exact BK324.out) hb); replace HB := Aside0.mk (below_step t7_ hb); (try clear hb); (try clear hb2); (try clear hk); (try clear hi)))
          go_meet
          case rel => exact ⟨_, ((t323 != t310)), t28_, H', ⟨by first | omega | exact Nat.le_refl _⟩, ⟨by (with_reducible repeat (first | apply Kd.R_alloc | apply Kd.R_drewN | apply Kd.R_drew)); exact Kd.R_mono HO309.out (fun _ hk => ⟨hk.2.1, hk.2.2⟩)⟩, ⟨by (with_reducible repeat (first | apply Kd.R_alloc | apply Kd.R_drewN | apply Kd.R_drew)); exact Kd.R_mono HO314.out (fun _ hk => ⟨hk.2.1, hk.2.2⟩)⟩, ⟨by (with_reducible repeat (first | apply Kd.R_alloc | apply Kd.R_drewN | apply Kd.R_drew)); exact Kd.R_mono HO322.out (fun _ hk => ⟨hk.2.1, hk.2.2⟩)⟩, ⟨by (with_reducible repeat (first | refine blk_drewN ?_ _ | refine blk_drew ?_ | refine blk_alloc ?_ _)); exact BK296.out⟩, ⟨by (with_reducible repeat (first | refine blk_drewN ?_ _ | refine blk_drew ?_ | refine blk_alloc ?_ _)); exact BK297.out⟩, ⟨by (with_reducible repeat (first | refine blk_drewN ?_ _ | refine blk_drew ?_ | refine blk_alloc ?_ _)); exact BK311.out⟩, ⟨by (with_reducible repeat (first | refine blk_drewN ?_ _ | refine blk_drew ?_ | refine blk_alloc ?_ _)); exact BK315.out⟩, ⟨by (with_reducible repeat (first | refine blk_drewN ?_ _ | refine blk_drew ?_ | refine blk_alloc ?_ _)); exact BK324.out⟩, ⟨t7_⟩⟩
        · replace c60 := Bool.eq_false_iff.mpr c60
          subst c60
          have H1 : (laws_FnExactPutRaw.j0 k t310 t323 true l0_0 a1_0 a1_1 a1_2 a1_3 t307 t312 t320) = some r := by rw [if_neg (show ¬ (false = true) by decide)] at H; exact H
          clear H
          have H := H1
          clear H1
          have H' := Aside0.mk H
          clear H
          have hnb71 := NB324_296.out
          have hnc71 := NB296_324.out
          have hnb72 := NB324_297.out
          have hnc72 := NB297_324.out
          have hnb73 := NB324_311.out
          have hnc73 := NB311_324.out
          have hnb74 := NB324_315.out
          have hnc74 := NB315_324.out
          have hcz75_0 := bc0 BK324
          have hfz75_0 := bf BK324 0
          have hnb76 := NB311_296.out
          have hnc76 := NB296_311.out
          have hnb77 := NB311_297.out
          have hnc77 := NB297_311.out
          have hnb78 := NB311_315.out
          have hnc78 := NB315_311.out
          have hcz79_0 := bc0 BK311
          have hfz79_0 := bf BK311 0
          go_wp2_with (first | ((with_reducible refine gate_callee (f := 17) rfl ?_); refine goesL_ (some 45) rfl rfl Try.func17 (by kernel_rfl) rfl #[.agg #[.slice Ao57 t320.length co57], .agg #[.slice Ao40 t307.length co40]] rfl t2_ ?_; (with_reducible refine (laws_eqDisk.calls k _ _ t320 _ _ t307 false _ ?side1 ?side2 ?side3 ?side4 A59.out).mono ?_); (case side1 => refine (Kd.R_reads' (e := 71) (base := w.heap.size) (ok := fun k_ => (some k_ ≠ (v301 : Value).ownBlock ∧ (some k_ ≠ (.slice Ao40 t307.length co40 : Value).ownBlock ∧ some k_ ≠ (.slice Ao46 t312.length co46 : Value).ownBlock))) (n := t320.length) (c := co57) ?_).2.2; exact (by (with_reducible repeat (first | apply Kd.R_alloc | apply Kd.R_drewN | apply Kd.R_drew)); exact (Kd.R_mono (Kd.R_far (p := ⟨gb324, 0, none⟩) (Kd.R_types HO322.out BK324.out (by decide)) (fun _ hk => hk.2) (.slice Ao57 t320.length co57)) (fun _ h_ => h_.1)))); (case side2 => exact (Kd.R_reads' HO322.out).2.1); (case side3 => refine (Kd.R_reads' (e := 71) (base := w.heap.size) (ok := fun k_ => (some k_ ≠ (v301 : Value).ownBlock ∧ (some k_ ≠ (.slice Ao46 t312.length co46 : Value).ownBlock ∧ some k_ ≠ (.slice Ao57 t320.length co57 : Value).ownBlock))) (n := t307.length) (c := co40) ?_).2.2; exact (by (with_reducible repeat (first | apply Kd.R_alloc | apply Kd.R_drewN | apply Kd.R_drew)); exact (Kd.R_mono (Kd.R_far (p := ⟨gb324, 0, none⟩) (Kd.R_types HO309.out BK324.out (by decide)) (fun _ hk => hk.2) (.slice Ao57 t320.length co57)) (fun _ h_ => h_.1)))); (case side4 => exact (Kd.R_reads' HO309.out).2.1); rintro e w80 ⟨rfl, hb⟩; refine ⟨_, rfl, ?_⟩; replace HO302 := Aside0.mk (Kd.R_below (by (with_reducible repeat (first | apply Kd.R_alloc | apply Kd.R_drewN | apply Kd.R_drew)); exact (Kd.R_mono (Kd.R_far (p := ⟨gb324, 0, none⟩) (Kd.R_types HO302.out BK324.out (by decide)) (fun _ hk => hk.2) (.slice Ao57 t320.length co57)) (fun _ h_ => h_.1))) hb); replace HO309 := Aside0.mk (Kd.R_below (by (with_reducible repeat (first | apply Kd.R_alloc | apply Kd.R_drewN | apply Kd.R_drew)); exact (Kd.R_mono (Kd.R_far (p := ⟨gb324, 0, none⟩) (Kd.R_types HO309.out BK324.out (by decide)) (fun _ hk => hk.2) (.slice Ao57 t320.length co57)) (fun _ h_ => h_.1))) hb); replace HO314 := Aside0.mk (Kd.R_below (by (with_reducible repeat (first | apply Kd.R_alloc | apply Kd.R_drewN | apply Kd.R_drew)); exact (Kd.R_mono (Kd.R_far (p := ⟨gb324, 0, none⟩) (Kd.R_types HO314.out BK324.out (by decide)) (fun _ hk => hk.2) (.slice Ao57 t320.length co57)) (fun _ h_ => h_.1))) hb); replace HO322 := Aside0.mk (Kd.R_below (by (with_reducible repeat (first | apply Kd.R_alloc | apply Kd.R_drewN | apply Kd.R_drew)); exact (Kd.R_mono (Kd.R_far (p := ⟨gb324, 0, none⟩) (Kd.R_types HO322.out BK324.out (by decide)) (fun _ hk => hk.2) (.slice Ao57 t320.length co57)) (fun _ h_ => h_.1))) hb); replace BK296 := bkF BK296 NB296_324 hb; replace BK297 := bkF BK297 NB297_324 hb; replace BK311 := bkF BK311 NB311_324 hb; replace BK315 := bkF BK315 NB315_324 hb; replace BK324 := Aside0.mk (blk_below (g := gb324) (o := .cells #[.slice Ao57 t320.length co57] 30 (0, 0)) (by (with_reducible repeat (first | refine blk_drewN ?_ _ | refine blk_drew ?_ | refine blk_alloc ?_ _)); refine blk_put (cs := #[.slice none 0 0]) ?_ 0 _ rfl; (with_reducible repeat (first | refine blk_drewN ?_ _ | refine blk_drew ?_ | refine blk_alloc ?_ _)); exact BK324.out) hb); replace HB := Aside0.mk (below_step t7_ hb); (try clear hb); (try clear hb2); (try clear hk); (try clear hi)))
          go_meet
          case rel => exact ⟨_, (true), t28_, H', ⟨by first | omega | exact Nat.le_refl _⟩, ⟨by (with_reducible repeat (first | apply Kd.R_alloc | apply Kd.R_drewN | apply Kd.R_drew)); exact Kd.R_mono HO309.out (fun _ hk => ⟨hk.2.1, hk.2.2⟩)⟩, ⟨by (with_reducible repeat (first | apply Kd.R_alloc | apply Kd.R_drewN | apply Kd.R_drew)); exact Kd.R_mono HO314.out (fun _ hk => ⟨hk.2.1, hk.2.2⟩)⟩, ⟨by (with_reducible repeat (first | apply Kd.R_alloc | apply Kd.R_drewN | apply Kd.R_drew)); exact Kd.R_mono HO322.out (fun _ hk => ⟨hk.2.1, hk.2.2⟩)⟩, ⟨by (with_reducible repeat (first | refine blk_drewN ?_ _ | refine blk_drew ?_ | refine blk_alloc ?_ _)); exact BK296.out⟩, ⟨by (with_reducible repeat (first | refine blk_drewN ?_ _ | refine blk_drew ?_ | refine blk_alloc ?_ _)); exact BK297.out⟩, ⟨by (with_reducible repeat (first | refine blk_drewN ?_ _ | refine blk_drew ?_ | refine blk_alloc ?_ _)); exact BK311.out⟩, ⟨by (with_reducible repeat (first | refine blk_drewN ?_ _ | refine blk_drew ?_ | refine blk_alloc ?_ _)); exact BK315.out⟩, ⟨by (with_reducible repeat (first | refine blk_drewN ?_ _ | refine blk_drew ?_ | refine blk_alloc ?_ _)); exact BK324.out⟩, ⟨t7_⟩⟩
      case rest =>
        clear HC25
        try clear c1
        try clear p2
        try clear c3
        try clear c6
        try clear c7
        try clear c17
        try clear c37
        try clear c38
        try clear c60
        try clear c61
        try clear c62
        try clear c63
        try clear c64
        try clear c66
        try clear c67
        try clear c68
        try clear c71
        try clear c72
        try clear c73
        try clear c74
        try clear c76
        try clear c77
        try clear c78
        try clear hcz65_0
        try clear hcz69_0
        try clear hcz75_0
        try clear hcz79_0
        try clear hfz65_0
        try clear hfz69_0
        try clear hfz75_0
        try clear hfz79_0
        obtain ⟨kq, x51_24, rfl, HA, HJ24, HO_312000, HO_316000, HO_325000, BK296, BK297, BK311, BK315, BK324, HB⟩ := hcut
        cases kq with
        | zero => exact absurd HA.out (by simp [laws_FnExactPutRaw.j0])
        | succ kj24 =>
          have H := HA.out
          clear HA
          simp only [laws_FnExactPutRaw.j0] at H
          by_cases c81 : x51_24 = true
          · subst c81
            have H1 : (none) = some r := by rw [if_pos rfl] at H; exact H
            clear H
            have H := H1
            clear H1
            exact absurd H (by simp)
          · replace c81 := Bool.eq_false_iff.mpr c81
            subst c81
            have H1 : ((laws_toDisk.f kj24 l0_0).bind fun t326 => ((laws_eqDisk.f kj24 t312 t326).bind fun t329 => (if t329 = true then ((laws_markDisk.f kj24 t312 1).bind fun bt330 => (if bt330.1 < 0 then (laws_FnExactPutRaw.j1 kj24 t310 true l0_0 a1_0 a1_1 a1_2 a1_3 t307 t320) else ((laws_eqDisk.f kj24 t320 t307).bind fun t332 => (if t332 = true then (laws_FnExactPutRaw.j1 kj24 t310 (t323 != t310) l0_0 a1_0 a1_1 a1_2 a1_3 t307 t320) else (laws_FnExactPutRaw.j1 kj24 t310 true l0_0 a1_0 a1_1 a1_2 a1_3 t307 t320))))) else (none)))) = some r := by rw [if_neg (show ¬ (false = true) by decide)] at H; exact H
            clear H
            have H := H1
            clear H1
            replace H := Option.bind_eq_some_iff.mp H
            obtain ⟨t326, A820, H⟩ := H
            replace H : ((laws_eqDisk.f kj24 t312 t326).bind fun t329 => (if t329 = true then ((laws_markDisk.f kj24 t312 1).bind fun bt330 => (if bt330.1 < 0 then (laws_FnExactPutRaw.j1 kj24 t310 true l0_0 a1_0 a1_1 a1_2 a1_3 t307 t320) else ((laws_eqDisk.f kj24 t320 t307).bind fun t332 => (if t332 = true then (laws_FnExactPutRaw.j1 kj24 t310 (t323 != t310) l0_0 a1_0 a1_1 a1_2 a1_3 t307 t320) else (laws_FnExactPutRaw.j1 kj24 t310 true l0_0 a1_0 a1_1 a1_2 a1_3 t307 t320))))) else (none))) = some r := H
            have A82 := Aside0.mk A820
            clear A820
            replace H := Option.bind_eq_some_iff.mp H
            obtain ⟨t329, A830, H⟩ := H
            replace H : (if t329 = true then ((laws_markDisk.f kj24 t312 1).bind fun bt330 => (if bt330.1 < 0 then (laws_FnExactPutRaw.j1 kj24 t310 true l0_0 a1_0 a1_1 a1_2 a1_3 t307 t320) else ((laws_eqDisk.f kj24 t320 t307).bind fun t332 => (if t332 = true then (laws_FnExactPutRaw.j1 kj24 t310 (t323 != t310) l0_0 a1_0 a1_1 a1_2 a1_3 t307 t320) else (laws_FnExactPutRaw.j1 kj24 t310 true l0_0 a1_0 a1_1 a1_2 a1_3 t307 t320))))) else (none)) = some r := H
            have A83 := Aside0.mk A830
            clear A830
            by_cases c84 : t329 = true
            · subst c84
              have H1 : ((laws_markDisk.f kj24 t312 1).bind fun bt330 => (if bt330.1 < 0 then (laws_FnExactPutRaw.j1 kj24 t310 true l0_0 a1_0 a1_1 a1_2 a1_3 t307 t320) else ((laws_eqDisk.f kj24 t320 t307).bind fun t332 => (if t332 = true then (laws_FnExactPutRaw.j1 kj24 t310 (t323 != t310) l0_0 a1_0 a1_1 a1_2 a1_3 t307 t320) else (laws_FnExactPutRaw.j1 kj24 t310 true l0_0 a1_0 a1_1 a1_2 a1_3 t307 t320))))) = some r := by rw [if_pos rfl] at H; exact H
              clear H
              have H := H1
              clear H1
              replace H := Option.bind_eq_some_iff.mp H
              obtain ⟨⟨t330, t331⟩, A850, H⟩ := H
              replace H : (if t330 < 0 then (laws_FnExactPutRaw.j1 kj24 t310 true l0_0 a1_0 a1_1 a1_2 a1_3 t307 t320) else ((laws_eqDisk.f kj24 t320 t307).bind fun t332 => (if t332 = true then (laws_FnExactPutRaw.j1 kj24 t310 (t323 != t310) l0_0 a1_0 a1_1 a1_2 a1_3 t307 t320) else (laws_FnExactPutRaw.j1 kj24 t310 true l0_0 a1_0 a1_1 a1_2 a1_3 t307 t320)))) = some r := H
              have A85 := Aside0.mk A850
              clear A850
              have HC86 := Aside0.mk H
              clear H
              try go_wp2
              replace HO_312000 := Aside0.mk (Kd.R_drew HO_312000.out)
              replace HO_316000 := Aside0.mk (Kd.R_drew HO_316000.out)
              replace HO_325000 := Aside0.mk (Kd.R_drew HO_325000.out)
              replace BK296 := Aside0.mk (blk_drew BK296.out)
              replace BK297 := Aside0.mk (blk_drew BK297.out)
              replace BK311 := Aside0.mk (blk_drew BK311.out)
              replace BK315 := Aside0.mk (blk_drew BK315.out)
              replace BK324 := Aside0.mk (blk_drew BK324.out)
              replace HB := Aside0.mk (below_drew1 HB.out)
              refine start_ (n := 5) (S := fun w' => w'.cell? ⟨gb315, 0, none⟩ = some (.slice Ao46 t312.length co46) ∧ w'.cell? ⟨gb296, 0, none⟩ = some (.slice A0_0 l0_0.length c0_0)) (ds := []) #[false, false, false, false, false] (by kernel_rfl) rfl rfl ⟨bc0 BK315, bc0 BK296⟩ (fun hHeld => ?_)
              generalize wc.drew = w87 at HO_312000 HO_316000 HO_325000 BK296 BK297 BK311 BK315 BK324 HB hHeld ⊢
              refine take_ (i := 0) (N := some 52) (v := ?_) (a' := ?_) #[true, false, false, false, false] rfl rfl (by kernel_rfl) (fun _ _ _ h => h) (Or.inl ⟨by rfl, ?_⟩) hHeld ?_ ?_
              rotate_left
              · rintro w' ⟨s0, s1⟩
                go_simp
                with_reducible rfl
              rotate_left
              · simp only [Act.put, List.setIfInBounds_toArray, List.set_cons_zero, List.set_cons_succ, i64_w, i32_w]
                rfl
              refine take_ (i := 1) (N := some 53) (v := ?_) (a' := ?_) #[true, true, false, false, false] rfl rfl (by kernel_rfl) (fun _ _ _ h => h) (Or.inl ⟨by rfl, ?_⟩) hHeld ?_ ?_
              rotate_left
              · rintro w' ⟨s0, s1⟩
                go_simp
                with_reducible rfl
              rotate_left
              · simp only [Act.put, List.setIfInBounds_toArray, List.set_cons_zero, List.set_cons_succ, i64_w, i32_w]
                rfl
              refine one_ (i := 2) (N := some 54) #[true, true, true, false, false] rfl rfl (by kernel_rfl) (by decide) (fun K hK => ?_)
              refine goes_ Try.func14 (by kernel_rfl) rfl #[.agg #[.slice A0_0 l0_0.length c0_0]] (by rfl) rfl rfl t2_ ?_
              with_reducible refine (laws_toDisk.calls kj24 _ _ l0_0 t326 _ ?side1 ?side2 A82.out).mono ?_
              (case side1 => exact cB HR0_0 HB)
              (case side2 => exact HC0_0.out)
              rintro e w88 ⟨v327, rfl, ho0, hb⟩
              refine ⟨_, rfl, ?_⟩
              have HO328 := Aside0.mk (Kd.R_lower (Kd.R_new' (Kd.R_new' (Kd.R_new' ho0 (Kd.R_lt t22_)) (Kd.R_lt t23_)) (Kd.R_lt t24_)) (below_size t7_))
              replace HO_312000 := Aside0.mk (Kd.R_elder' t22_ (Kd.R_base ho0) hb)
              replace HO_316000 := Aside0.mk (Kd.R_elder' t23_ (Kd.R_base ho0) hb)
              replace HO_325000 := Aside0.mk (Kd.R_elder' t24_ (Kd.R_base ho0) hb)
              replace BK296 := bkN BK296 hb
              replace BK297 := bkN BK297 hb
              replace BK311 := bkN BK311 hb
              replace BK315 := bkN BK315 hb
              replace BK324 := bkN BK324 hb
              replace HB := Aside0.mk (below_step t7_ hb)
              (try clear hb)
              (try clear hb2)
              (try clear hk)
              (try clear hi)
              (try clear ho0)
              obtain ⟨Ao89, co89, eo89⟩ := Kd.R_slice HO328.out
              (first | subst eo89 | (injection eo89 with f1_ f2_ f3_; have f4_ := f1_.symm; have f5_ := f3_.symm; clear f1_ f2_ f3_; subst f4_; subst f5_))
              refine hK.out _ _ ⟨bc0 BK315, bc0 BK296⟩ (fun hHeld => ?_)
              clear hK K
              refine norm_ (a' := ?_) ?_ ?_
              rotate_left
              · show Act.put _ (some 54) _ = _
                simp only [Act.put, List.setIfInBounds_toArray, List.set_cons_zero, List.set_cons_succ, i64_w, i32_w]
                rfl
              refine one_ (i := 3) (N := some 55) #[true, true, true, true, false] rfl rfl (by kernel_rfl) (by decide) (fun K hK => ?_)
              refine goes_ Try.func17 (by kernel_rfl) rfl #[.agg #[.slice Ao46 t312.length co46], .agg #[.slice Ao89 t326.length co89]] (by rfl) rfl rfl t2_ ?_
              with_reducible refine (laws_eqDisk.calls kj24 _ _ t312 _ _ t326 true _ ?side1 ?side2 ?side3 ?side4 A83.out).mono ?_
              (case side1 => repeat (first | exact (Kd.R_reads' HO_316000.out).2.2 | (with_reducible refine Kd.C_alloc ?_ _) | (with_reducible refine Kd.C_drewN ?_ _) | (with_reducible refine Kd.C_drew ?_)))
              (case side2 => exact (Kd.R_reads' HO_316000.out).2.1)
              (case side3 => repeat (first | exact (Kd.R_reads' HO328.out).2.2 | (with_reducible refine Kd.C_alloc ?_ _) | (with_reducible refine Kd.C_drewN ?_ _) | (with_reducible refine Kd.C_drew ?_)))
              (case side4 => exact (Kd.R_reads' HO328.out).2.1)
              rintro e w90 ⟨rfl, hb⟩
              refine ⟨_, rfl, ?_⟩
              replace HO_312000 := Aside0.mk (Kd.R_below t22_ hb)
              replace HO_316000 := Aside0.mk (Kd.R_below t23_ hb)
              replace HO_325000 := Aside0.mk (Kd.R_below t24_ hb)
              replace HO328 := Aside0.mk (Kd.R_below (by (with_reducible repeat (first | apply Kd.R_alloc | apply Kd.R_drewN | apply Kd.R_drew)); exact HO328.out) hb)
              replace BK296 := bkN BK296 hb
              replace BK297 := bkN BK297 hb
              replace BK311 := bkN BK311 hb
              replace BK315 := bkN BK315 hb
              replace BK324 := bkN BK324 hb
              replace HB := Aside0.mk (below_step t7_ hb)
              (try clear hb)
              (try clear hb2)
              (try clear hk)
              (try clear hi)
              refine hK.out _ _ ⟨bc0 BK315, bc0 BK296⟩ (fun hHeld => ?_)
              clear hK K
              refine norm_ (a' := ?_) ?_ ?_
              rotate_left
              · show Act.put _ (some 55) _ = _
                simp only [Act.put, List.setIfInBounds_toArray, List.set_cons_zero, List.set_cons_succ, i64_w, i32_w]
                rfl
              refine pure_ (i := 4) (N := some 56) (v := ?_) (a' := ?_) #[true, true, true, true, true] rfl rfl (by kernel_rfl) (fun _ _ _ h => h) (Or.inl ⟨by rfl, ?_⟩) ?_ ?_
              rotate_left
              · intro w'
                go_simp
                with_reducible rfl
              rotate_left
              · simp only [Act.put, List.setIfInBounds_toArray, List.set_cons_zero, List.set_cons_succ, i64_w, i32_w]
                rfl
              refine done_ (by kernel_rfl) ?_
              have hnb91 := NB315_296.out
              have hnc91 := NB296_315.out
              have hnb92 := NB315_297.out
              have hnc92 := NB297_315.out
              have hnb93 := NB315_311.out
              have hnc93 := NB311_315.out
              have hnb94 := NB315_324.out
              have hnc94 := NB324_315.out
              have hcz95_0 := bc0 BK315
              have hfz95_0 := bf BK315 0
              go_upto_region 17 with (first | ((with_reducible refine gate_callee (f := 19) rfl ?_); refine goesL_ (some 59) rfl rfl Try.func19 (by kernel_rfl) rfl #[.agg #[.slice Ao46 t312.length co46], .int .i64 1] rfl t2_ ?_; (with_reducible refine (laws_markDisk.calls kj24 (fun k_ => some k_ = (.slice Ao46 t312.length co46 : Value).ownBlock) (.slice Ao46 t312.length co46) t312 1 t330 t331 w _ ?side1 ?side2 A85.out).mono ?_); (case side1 => repeat (first | (with_reducible first | exact HB.out | apply below_alloc | apply pw_below_drewN | apply below_drew1 | refine below_set ?_ GE296.out | refine below_set ?_ GE297.out | refine below_set ?_ GE311.out | refine below_set ?_ GE315.out | refine below_set ?_ GE324.out) | exact HB.out)); (case side2 => exact Kd.R_tight rfl HO_316000.out); rintro e w96 ⟨rfl, hy0, hb, hkp⟩; refine ⟨_, rfl, ?_⟩; replace HO_312000 := Aside0.mk (Kd.R_mono (ok' := fun k_ => some k_ ≠ (.slice Ao46 t312.length co46 : Value).ownBlock ∧ some k_ ≠ (.slice Ao57 t320.length co57 : Value).ownBlock ∧ some k_ ≠ (.slice Ao89 t326.length co89 : Value).ownBlock) (Kd.R_keptB (HO_312000.out) hkp (fun k_ hk_ hs_ => (hk_.1.1) hs_)) (fun k_ hk_ => ⟨hk_.1.1.1, hk_.1.1.2, hk_.1.2⟩)); replace HO_325000 := Aside0.mk (Kd.R_mono (ok' := fun k_ => some k_ ≠ (.slice Ao40 t307.length co40 : Value).ownBlock ∧ some k_ ≠ (.slice Ao46 t312.length co46 : Value).ownBlock ∧ some k_ ≠ (.slice Ao89 t326.length co89 : Value).ownBlock) (Kd.R_keptB (HO_325000.out) hkp (fun k_ hk_ hs_ => (hk_.1.2) hs_)) (fun k_ hk_ => ⟨hk_.1.1.1, hk_.1.1.2, hk_.1.2⟩)); replace BK296 := Aside0.mk (blk_kept t34_ hkp (fun hs_ => (fun e_ => (Kd.R_ne HO_316000.out BK296.out (by decide)) e_) hs_)); replace BK297 := Aside0.mk (blk_kept t35_ hkp (fun hs_ => (fun e_ => (Kd.R_ne HO_316000.out BK297.out (by decide)) e_) hs_)); replace BK311 := Aside0.mk (blk_kept t36_ hkp (fun hs_ => (fun e_ => (Kd.R_ne HO_316000.out BK311.out (by decide)) e_) hs_)); replace BK315 := Aside0.mk (blk_kept t51_ hkp (fun hs_ => (fun e_ => (Kd.R_ne HO_316000.out BK315.out (by decide)) e_) hs_)); replace BK324 := Aside0.mk (blk_kept t52_ hkp (fun hs_ => (fun e_ => (Kd.R_ne HO_316000.out BK324.out (by decide)) e_) hs_)); replace HO_316000 := Aside0.mk (Kd.R_reok rfl hy0 (fun k_ e_ => HO_316000.out.1 k_ e_)); replace HO328 := Aside0.mk (Kd.R_mono (ok' := fun k_ => some k_ ≠ (.slice Ao40 t307.length co40 : Value).ownBlock ∧ some k_ ≠ (.slice Ao46 t312.length co46 : Value).ownBlock ∧ some k_ ≠ (.slice Ao57 t320.length co57 : Value).ownBlock) (Kd.R_keptB (HO328.out) hkp (fun k_ hk_ hs_ => (hk_.1.2) hs_)) (fun k_ hk_ => ⟨hk_.1.1.1.2, hk_.1.1.2, hk_.1.2⟩)); replace HB := Aside0.mk (hb); (try clear hb); (try clear hkp); (try clear hy0)))
              (try simp only [Act.put, List.setIfInBounds_toArray, List.set_cons_zero, List.set_cons_succ])
              go_cut [72] (fun v72 wc => ∃ (kq : Nat) (x72_85 : Bool), v72 = .bool x72_85 ∧ Aside0 (laws_FnExactPutRaw.j1 kq t310 x72_85 l0_0 a1_0 a1_1 a1_2 a1_3 t307 t320 = some r) ∧ Aside0 (kq ≤ kj24) ∧ Aside0 (Kd.R k71 71 wc w.heap.size (fun k_ => some k_ ≠ ((.slice Ao46 t312.length co46) : Value).ownBlock ∧ some k_ ≠ ((.slice Ao57 t320.length co57) : Value).ownBlock) (.slice Ao40 t307.length co40) t307) ∧ Aside0 (Kd.R k71 71 wc w.heap.size (fun k_ => some k_ ≠ ((.slice Ao40 t307.length co40) : Value).ownBlock ∧ some k_ ≠ ((.slice Ao57 t320.length co57) : Value).ownBlock) (.slice Ao46 t312.length co46) t331) ∧ Aside0 (Kd.R k71 71 wc w.heap.size (fun k_ => some k_ ≠ ((.slice Ao40 t307.length co40) : Value).ownBlock ∧ some k_ ≠ ((.slice Ao46 t312.length co46) : Value).ownBlock) (.slice Ao57 t320.length co57) t320) ∧ Aside0 (wc.heap[gb296]? = some (.cells #[(.slice A0_0 l0_0.length c0_0)] 24 (0, 0))) ∧ Aside0 (wc.heap[gb297]? = some (.cells #[.int .i64 a1_0, .string a1_1, .string a1_2, .string a1_3] 73 (0, 0))) ∧ Aside0 (wc.heap[gb311]? = some (.cells #[(.slice Ao40 t307.length co40)] 30 (0, 0))) ∧ Aside0 (wc.heap[gb315]? = some (.cells #[(.slice Ao46 t312.length co46)] 30 (0, 0))) ∧ Aside0 (wc.heap[gb324]? = some (.cells #[(.slice Ao57 t320.length co57)] 30 (0, 0))) ∧ Aside0 (Below w.heap.size w wc))
              case first =>
                have H := HC86.out
                clear HC86
                by_cases c97 : t330 < 0
                · rw [if_pos c97] at H
                  have c97b0 : decide (t330 < 0) = true := decide_eq_true c97
                  clear c97
                  (first | rw [c97b0] | (simp only [i64_w, i32_w]; rw [c97b0]) | skip)
                  have H' := Aside0.mk H
                  clear H
                  go_wp2
                  go_meet
                  case rel => exact ⟨_, (true), t28_, H', ⟨by have := HJ24.out; first | omega | exact Nat.le_refl _⟩, ⟨by (with_reducible repeat (first | apply Kd.R_alloc | apply Kd.R_drewN | apply Kd.R_drew)); exact Kd.R_mono HO_312000.out (fun _ hk => ⟨hk.1, hk.2.1⟩)⟩, ⟨by (with_reducible repeat (first | apply Kd.R_alloc | apply Kd.R_drewN | apply Kd.R_drew)); exact Kd.R_mono HO_316000.out (fun _ hk => ⟨hk.1.1, hk.1.2⟩)⟩, ⟨by (with_reducible repeat (first | apply Kd.R_alloc | apply Kd.R_drewN | apply Kd.R_drew)); exact Kd.R_mono HO_325000.out (fun _ hk => ⟨hk.1, hk.2.1⟩)⟩, ⟨by (with_reducible repeat (first | refine blk_drewN ?_ _ | refine blk_drew ?_ | refine blk_alloc ?_ _)); exact BK296.out⟩, ⟨by (with_reducible repeat (first | refine blk_drewN ?_ _ | refine blk_drew ?_ | refine blk_alloc ?_ _)); exact BK297.out⟩, ⟨by (with_reducible repeat (first | refine blk_drewN ?_ _ | refine blk_drew ?_ | refine blk_alloc ?_ _)); exact BK311.out⟩, ⟨by (with_reducible repeat (first | refine blk_drewN ?_ _ | refine blk_drew ?_ | refine blk_alloc ?_ _)); exact BK315.out⟩, ⟨by (with_reducible repeat (first | refine blk_drewN ?_ _ | refine blk_drew ?_ | refine blk_alloc ?_ _)); exact BK324.out⟩, ⟨t7_⟩⟩
                · rw [if_neg c97] at H
                  have c97b0 : decide (t330 < 0) = false := decide_eq_false c97
                  clear c97
                  (first | rw [c97b0] | (simp only [i64_w, i32_w]; rw [c97b0]) | skip)
                  replace H := Option.bind_eq_some_iff.mp H
                  obtain ⟨t332, A980, H⟩ := H
                  replace H : (if t332 = true then (laws_FnExactPutRaw.j1 kj24 t310 (t323 != t310) l0_0 a1_0 a1_1 a1_2 a1_3 t307 t320) else (laws_FnExactPutRaw.j1 kj24 t310 true l0_0 a1_0 a1_1 a1_2 a1_3 t307 t320)) = some r := H
                  have A98 := Aside0.mk A980
                  clear A980
                  by_cases c99 : t332 = true
                  · subst c99
                    have H1 : (laws_FnExactPutRaw.j1 kj24 t310 (t323 != t310) l0_0 a1_0 a1_1 a1_2 a1_3 t307 t320) = some r := by rw [if_pos rfl] at H; exact H
                    clear H
                    have H := H1
                    clear H1
                    have H' := Aside0.mk H
                    clear H
                    have hnb100 := NB324_296.out
                    have hnc100 := NB296_324.out
                    have hnb101 := NB324_297.out
                    have hnc101 := NB297_324.out
                    have hnb102 := NB324_311.out
                    have hnc102 := NB311_324.out
                    have hnb103 := NB324_315.out
                    have hnc103 := NB315_324.out
                    have hcz104_0 := bc0 BK324
                    have hfz104_0 := bf BK324 0
                    have hnb105 := NB311_296.out
                    have hnc105 := NB296_311.out
                    have hnb106 := NB311_297.out
                    have hnc106 := NB297_311.out
                    have hnb107 := NB311_315.out
                    have hnc107 := NB315_311.out
                    have hcz108_0 := bc0 BK311
                    have hfz108_0 := bf BK311 0
                    go_wp2_with (first | (go_at_call 17; (with_reducible refine (laws_eqDisk.calls kj24 _ _ t320 _ _ t307 true _ ?side1 ?side2 ?side3 ?side4 A98.out).mono ?_); (case side1 => repeat (first | exact (Kd.R_reads' HO_325000.out).2.2 | (with_reducible refine Kd.C_alloc ?_ _) | (with_reducible refine Kd.C_drewN ?_ _) | (with_reducible refine Kd.C_drew ?_))); (case side2 => exact (Kd.R_reads' HO_325000.out).2.1); (case side3 => repeat (first | exact (Kd.R_reads' HO_312000.out).2.2 | (with_reducible refine Kd.C_alloc ?_ _) | (with_reducible refine Kd.C_drewN ?_ _) | (with_reducible refine Kd.C_drew ?_))); (case side4 => exact (Kd.R_reads' HO_312000.out).2.1); rintro e w109 ⟨rfl, hb⟩; replace HO_312000 := Aside0.mk (Kd.R_below t22_ hb); replace HO_316000 := Aside0.mk (Kd.R_below t23_ hb); replace HO_325000 := Aside0.mk (Kd.R_below t24_ hb); replace HO328 := Aside0.mk (Kd.R_below (by (with_reducible repeat (first | apply Kd.R_alloc | apply Kd.R_drewN | apply Kd.R_drew)); exact HO328.out) hb); replace BK296 := bkN BK296 hb; replace BK297 := bkN BK297 hb; replace BK311 := bkN BK311 hb; replace BK315 := bkN BK315 hb; replace BK324 := bkN BK324 hb; replace HB := Aside0.mk (below_step t7_ hb); (try clear hb); (try clear hb2); (try clear hk); (try clear hi)))
                    go_meet
                    case rel => exact ⟨_, ((t323 != t310)), t28_, H', ⟨by have := HJ24.out; first | omega | exact Nat.le_refl _⟩, ⟨by (with_reducible repeat (first | apply Kd.R_alloc | apply Kd.R_drewN | apply Kd.R_drew)); exact Kd.R_mono HO_312000.out (fun _ hk => ⟨hk.1, hk.2.1⟩)⟩, ⟨by (with_reducible repeat (first | apply Kd.R_alloc | apply Kd.R_drewN | apply Kd.R_drew)); exact Kd.R_mono HO_316000.out (fun _ hk => ⟨hk.1.1, hk.1.2⟩)⟩, ⟨by (with_reducible repeat (first | apply Kd.R_alloc | apply Kd.R_drewN | apply Kd.R_drew)); exact Kd.R_mono HO_325000.out (fun _ hk => ⟨hk.1, hk.2.1⟩)⟩, ⟨by (with_reducible repeat (first | refine blk_drewN ?_ _ | refine blk_drew ?_ | refine blk_alloc ?_ _)); exact BK296.out⟩, ⟨by (with_reducible repeat (first | refine blk_drewN ?_ _ | refine blk_drew ?_ | refine blk_alloc ?_ _)); exact BK297.out⟩, ⟨by (with_reducible repeat (first | refine blk_drewN ?_ _ | refine blk_drew ?_ | refine blk_alloc ?_ _)); exact BK311.out⟩, ⟨by (with_reducible repeat (first | refine blk_drewN ?_ _ | refine blk_drew ?_ | refine blk_alloc ?_ _)); exact BK315.out⟩, ⟨by (with_reducible repeat (first | refine blk_drewN ?_ _ | refine blk_drew ?_ | refine blk_alloc ?_ _)); exact BK324.out⟩, ⟨t7_⟩⟩
                  · replace c99 := Bool.eq_false_iff.mpr c99
                    subst c99
                    have H1 : (laws_FnExactPutRaw.j1 kj24 t310 true l0_0 a1_0 a1_1 a1_2 a1_3 t307 t320) = some r := by rw [if_neg (show ¬ (false = true) by decide)] at H; exact H
                    clear H
                    have H := H1
                    clear H1
                    have H' := Aside0.mk H
                    clear H
                    have hnb110 := NB324_296.out
                    have hnc110 := NB296_324.out
                    have hnb111 := NB324_297.out
                    have hnc111 := NB297_324.out
                    have hnb112 := NB324_311.out
                    have hnc112 := NB311_324.out
                    have hnb113 := NB324_315.out
                    have hnc113 := NB315_324.out
                    have hcz114_0 := bc0 BK324
                    have hfz114_0 := bf BK324 0
                    have hnb115 := NB311_296.out
                    have hnc115 := NB296_311.out
                    have hnb116 := NB311_297.out
                    have hnc116 := NB297_311.out
                    have hnb117 := NB311_315.out
                    have hnc117 := NB315_311.out
                    have hcz118_0 := bc0 BK311
                    have hfz118_0 := bf BK311 0
                    go_wp2_with (first | (go_at_call 17; (with_reducible refine (laws_eqDisk.calls kj24 _ _ t320 _ _ t307 false _ ?side1 ?side2 ?side3 ?side4 A98.out).mono ?_); (case side1 => repeat (first | exact (Kd.R_reads' HO_325000.out).2.2 | (with_reducible refine Kd.C_alloc ?_ _) | (with_reducible refine Kd.C_drewN ?_ _) | (with_reducible refine Kd.C_drew ?_))); (case side2 => exact (Kd.R_reads' HO_325000.out).2.1); (case side3 => repeat (first | exact (Kd.R_reads' HO_312000.out).2.2 | (with_reducible refine Kd.C_alloc ?_ _) | (with_reducible refine Kd.C_drewN ?_ _) | (with_reducible refine Kd.C_drew ?_))); (case side4 => exact (Kd.R_reads' HO_312000.out).2.1); rintro e w119 ⟨rfl, hb⟩; replace HO_312000 := Aside0.mk (Kd.R_below t22_ hb); replace HO_316000 := Aside0.mk (Kd.R_below t23_ hb); replace HO_325000 := Aside0.mk (Kd.R_below t24_ hb); replace HO328 := Aside0.mk (Kd.R_below (by (with_reducible repeat (first | apply Kd.R_alloc | apply Kd.R_drewN | apply Kd.R_drew)); exact HO328.out) hb); replace BK296 := bkN BK296 hb; replace BK297 := bkN BK297 hb; replace BK311 := bkN BK311 hb; replace BK315 := bkN BK315 hb; replace BK324 := bkN BK324 hb; replace HB := Aside0.mk (below_step t7_ hb); (try clear hb); (try clear hb2); (try clear hk); (try clear hi)))
                    go_meet
                    case rel => exact ⟨_, (true), t28_, H', ⟨by have := HJ24.out; first | omega | exact Nat.le_refl _⟩, ⟨by (with_reducible repeat (first | apply Kd.R_alloc | apply Kd.R_drewN | apply Kd.R_drew)); exact Kd.R_mono HO_312000.out (fun _ hk => ⟨hk.1, hk.2.1⟩)⟩, ⟨by (with_reducible repeat (first | apply Kd.R_alloc | apply Kd.R_drewN | apply Kd.R_drew)); exact Kd.R_mono HO_316000.out (fun _ hk => ⟨hk.1.1, hk.1.2⟩)⟩, ⟨by (with_reducible repeat (first | apply Kd.R_alloc | apply Kd.R_drewN | apply Kd.R_drew)); exact Kd.R_mono HO_325000.out (fun _ hk => ⟨hk.1, hk.2.1⟩)⟩, ⟨by (with_reducible repeat (first | refine blk_drewN ?_ _ | refine blk_drew ?_ | refine blk_alloc ?_ _)); exact BK296.out⟩, ⟨by (with_reducible repeat (first | refine blk_drewN ?_ _ | refine blk_drew ?_ | refine blk_alloc ?_ _)); exact BK297.out⟩, ⟨by (with_reducible repeat (first | refine blk_drewN ?_ _ | refine blk_drew ?_ | refine blk_alloc ?_ _)); exact BK311.out⟩, ⟨by (with_reducible repeat (first | refine blk_drewN ?_ _ | refine blk_drew ?_ | refine blk_alloc ?_ _)); exact BK315.out⟩, ⟨by (with_reducible repeat (first | refine blk_drewN ?_ _ | refine blk_drew ?_ | refine blk_alloc ?_ _)); exact BK324.out⟩, ⟨t7_⟩⟩
              case rest =>
                clear HC86
                try clear c1
                try clear p2
                try clear c3
                try clear c6
                try clear c7
                try clear c8
                try clear c9
                try clear c10
                try clear c11
                try clear c14
                try clear c17
                try clear c19
                try clear c37
                try clear c38
                try clear c60
                try clear c61
                try clear c62
                try clear c63
                try clear c64
                try clear c66
                try clear c67
                try clear c68
                try clear c71
                try clear c72
                try clear c73
                try clear c74
                try clear c76
                try clear c77
                try clear c78
                try clear c81
                try clear c84
                try clear c91
                try clear c92
                try clear c93
                try clear c94
                try clear c97
                try clear c97b0
                try clear c99
                try clear c100
                try clear c101
                try clear c102
                try clear c103
                try clear c105
                try clear c106
                try clear c107
                try clear c110
                try clear c111
                try clear c112
                try clear c113
                try clear c115
                try clear c116
                try clear c117
                try clear hcz104_0
                try clear hcz108_0
                try clear hcz114_0
                try clear hcz118_0
                try clear hcz65_0
                try clear hcz69_0
                try clear hcz75_0
                try clear hcz79_0
                try clear hcz95_0
                try clear hfz104_0
                try clear hfz108_0
                try clear hfz114_0
                try clear hfz118_0
                try clear hfz65_0
                try clear hfz69_0
                try clear hfz75_0
                try clear hfz79_0
                try clear hfz95_0
                try clear p2
                obtain ⟨kq, x72_85, rfl, HA, HJ85, HO_312000, HO_316000, HO_325000, BK296, BK297, BK311, BK315, BK324, HB⟩ := hcut
                have hl316000_85 := (Kd.R_reads' HO_316000.out).1
                rw [hl316000_85] at HO_316000
                (try simp only [hl316000_85])
                (try simp only [hl316000_85] at BK296)
                (try simp only [hl316000_85] at BK297)
                (try simp only [hl316000_85] at BK311)
                (try simp only [hl316000_85] at BK315)
                (try simp only [hl316000_85] at BK324)
                (try simp only [hl316000_85] at HO_312000)
                (try simp only [hl316000_85] at HO_325000)
                cases kq with
                | zero => exact absurd HA.out (by simp [laws_FnExactPutRaw.j1])
                | succ kj85 =>
                  have H := HA.out
                  clear HA
                  simp only [laws_FnExactPutRaw.j1] at H
                  by_cases c120 : x72_85 = true
                  · subst c120
                    have H1 : (none) = some r := by rw [if_pos rfl] at H; exact H
                    clear H
                    have H := H1
                    clear H1
                    exact absurd H (by simp)
                  · replace c120 := Bool.eq_false_iff.mpr c120
                    subst c120
                    have H1 : ((laws_markDisk.f kj85 t320 1).bind fun bt333 => ((laws_heldDisk.f kj85 bt333.2 1).bind fun t335 => (if t335 < 0 then (none) else (if t335 = bt333.1 then ((laws_toDisk.f kj85 l0_0).bind fun t336 => ((laws_toRaw.f a1_0 a1_1 a1_2 a1_3).bind fun bt339 => ((impl_PutRaw.f kj85 t336 bt339.1 bt339.2.1 bt339.2.2.1 bt339.2.2.2).bind fun bt343 => ((laws_eqDisk.f kj85 bt343.1 t307).bind fun t348 => (if t348 = true then (laws_FnExactPutRaw.j2 kj85 bt333.1 (bt343.2 != t310) bt333.2) else (laws_FnExactPutRaw.j2 kj85 bt333.1 true bt333.2)))))) else (none))))) = some r := by rw [if_neg (show ¬ (false = true) by decide)] at H; exact H
                    clear H
                    have H := H1
                    clear H1
                    replace H := Option.bind_eq_some_iff.mp H
                    obtain ⟨⟨t333, t334⟩, A1210, H⟩ := H
                    replace H : ((laws_heldDisk.f kj85 t334 1).bind fun t335 => (if t335 < 0 then (none) else (if t335 = t333 then ((laws_toDisk.f kj85 l0_0).bind fun t336 => ((laws_toRaw.f a1_0 a1_1 a1_2 a1_3).bind fun bt339 => ((impl_PutRaw.f kj85 t336 bt339.1 bt339.2.1 bt339.2.2.1 bt339.2.2.2).bind fun bt343 => ((laws_eqDisk.f kj85 bt343.1 t307).bind fun t348 => (if t348 = true then (laws_FnExactPutRaw.j2 kj85 t333 (bt343.2 != t310) t334) else (laws_FnExactPutRaw.j2 kj85 t333 true t334)))))) else (none)))) = some r := H
                    have A121 := Aside0.mk A1210
                    clear A1210
                    replace H := Option.bind_eq_some_iff.mp H
                    obtain ⟨t335, A1220, H⟩ := H
                    replace H : (if t335 < 0 then (none) else (if t335 = t333 then ((laws_toDisk.f kj85 l0_0).bind fun t336 => ((laws_toRaw.f a1_0 a1_1 a1_2 a1_3).bind fun bt339 => ((impl_PutRaw.f kj85 t336 bt339.1 bt339.2.1 bt339.2.2.1 bt339.2.2.2).bind fun bt343 => ((laws_eqDisk.f kj85 bt343.1 t307).bind fun t348 => (if t348 = true then (laws_FnExactPutRaw.j2 kj85 t333 (bt343.2 != t310) t334) else (laws_FnExactPutRaw.j2 kj85 t333 true t334)))))) else (none))) = some r := H
                    have A122 := Aside0.mk A1220
                    clear A1220
                    by_cases c123 : t335 < 0
                    · rw [if_pos c123] at H
                      exact absurd H (by simp)
                    · rw [if_neg c123] at H
                      have c123b0 : decide (t335 < 0) = false := decide_eq_false c123
                      clear c123
                      by_cases c124 : t335 = t333
                      · rw [if_pos c124] at H
                        have c124b0 : (t335 == t333) = true := beq_iff_eq.mpr c124
                        have c124b1 : (t335 != t333) = false := bne_eq_false_iff_eq.mpr c124
                        clear c124
                        replace H := Option.bind_eq_some_iff.mp H
                        obtain ⟨t336, A1250, H⟩ := H
                        replace H : ((laws_toRaw.f a1_0 a1_1 a1_2 a1_3).bind fun bt339 => ((impl_PutRaw.f kj85 t336 bt339.1 bt339.2.1 bt339.2.2.1 bt339.2.2.2).bind fun bt343 => ((laws_eqDisk.f kj85 bt343.1 t307).bind fun t348 => (if t348 = true then (laws_FnExactPutRaw.j2 kj85 t333 (bt343.2 != t310) t334) else (laws_FnExactPutRaw.j2 kj85 t333 true t334))))) = some r := H
                        have A125 := Aside0.mk A1250
                        clear A1250
                        replace H := Option.bind_eq_some_iff.mp H
                        obtain ⟨⟨t339, t340, t341, t342⟩, A1260, H⟩ := H
                        replace H : ((impl_PutRaw.f kj85 t336 t339 t340 t341 t342).bind fun bt343 => ((laws_eqDisk.f kj85 bt343.1 t307).bind fun t348 => (if t348 = true then (laws_FnExactPutRaw.j2 kj85 t333 (bt343.2 != t310) t334) else (laws_FnExactPutRaw.j2 kj85 t333 true t334)))) = some r := H
                        have A126 := Aside0.mk A1260
                        clear A1260
                        replace H := Option.bind_eq_some_iff.mp H
                        obtain ⟨⟨t343, t346⟩, A1270, H⟩ := H
                        replace H : ((laws_eqDisk.f kj85 t343 t307).bind fun t348 => (if t348 = true then (laws_FnExactPutRaw.j2 kj85 t333 (t346 != t310) t334) else (laws_FnExactPutRaw.j2 kj85 t333 true t334))) = some r := H
                        have A127 := Aside0.mk A1270
                        clear A1270
                        have HC128 := Aside0.mk H
                        clear H
                        have hnb129 := NB324_296.out
                        have hnc129 := NB296_324.out
                        have hnb130 := NB324_297.out
                        have hnc130 := NB297_324.out
                        have hnb131 := NB324_311.out
                        have hnc131 := NB311_324.out
                        have hnb132 := NB324_315.out
                        have hnc132 := NB315_324.out
                        have hcz133_0 := bc0 BK324
                        have hfz133_0 := bf BK324 0
                        try go_wp2_with (first | ((with_reducible refine gate_callee (f := 19) rfl ?_); refine goesL_ (some 75) rfl rfl Try.func19 (by kernel_rfl) rfl #[.agg #[.slice Ao57 t320.length co57], .int .i64 1] rfl t2_ ?_; (with_reducible refine (laws_markDisk.calls kj85 (fun k_ => some k_ = (.slice Ao57 t320.length co57 : Value).ownBlock) (.slice Ao57 t320.length co57) t320 1 t333 t334 w _ ?side1 ?side2 A121.out).mono ?_); (case side1 => repeat (first | (with_reducible first | exact HB.out | apply below_alloc | apply pw_below_drewN | apply below_drew1 | refine below_set ?_ GE296.out | refine below_set ?_ GE297.out | refine below_set ?_ GE311.out | refine below_set ?_ GE315.out | refine below_set ?_ GE324.out) | exact HB.out)); (case side2 => exact Kd.R_tight rfl HO_325000.out); rintro e w134 ⟨rfl, hy0, hb, hkp⟩; refine ⟨_, rfl, ?_⟩; replace HO_312000 := Aside0.mk (Kd.R_mono (ok' := fun k_ => some k_ ≠ (.slice Ao46 t331.length co46 : Value).ownBlock ∧ some k_ ≠ (.slice Ao57 t320.length co57 : Value).ownBlock) (Kd.R_keptB (HO_312000.out) hkp (fun k_ hk_ hs_ => (hk_.2) hs_)) (fun k_ hk_ => ⟨hk_.1.1, hk_.1.2⟩)); replace HO_316000 := Aside0.mk (Kd.R_mono (ok' := fun k_ => some k_ ≠ (.slice Ao40 t307.length co40 : Value).ownBlock ∧ some k_ ≠ (.slice Ao57 t320.length co57 : Value).ownBlock) (Kd.R_keptB (HO_316000.out) hkp (fun k_ hk_ hs_ => (hk_.2) hs_)) (fun k_ hk_ => ⟨hk_.1.1, hk_.1.2⟩)); replace BK296 := Aside0.mk (blk_kept t34_ hkp (fun hs_ => (fun e_ => (Kd.R_ne HO_325000.out BK296.out (by decide)) e_) hs_)); replace BK297 := Aside0.mk (blk_kept t35_ hkp (fun hs_ => (fun e_ => (Kd.R_ne HO_325000.out BK297.out (by decide)) e_) hs_)); replace BK311 := Aside0.mk (blk_kept t36_ hkp (fun hs_ => (fun e_ => (Kd.R_ne HO_325000.out BK311.out (by decide)) e_) hs_)); replace BK315 := Aside0.mk (blk_kept t51_ hkp (fun hs_ => (fun e_ => (Kd.R_ne HO_325000.out BK315.out (by decide)) e_) hs_)); replace BK324 := Aside0.mk (blk_kept t52_ hkp (fun hs_ => (fun e_ => (Kd.R_ne HO_325000.out BK324.out (by decide)) e_) hs_)); replace HO_325000 := Aside0.mk (Kd.R_reok rfl hy0 (fun k_ e_ => HO_325000.out.1 k_ e_)); replace HB := Aside0.mk (hb); (try clear hb); (try clear hkp); (try clear hy0); have hcz135_0 := bc0 BK324; have hfz135_0 := bf BK324 0) | ((with_reducible refine gate_callee (f := 21) rfl ?_); refine goesL_ (some 78) rfl rfl Try.func21 (by kernel_rfl) rfl #[.agg #[.slice Ao57 t334.length co57], .int .i64 1] rfl (by (try simp only [List.map_toArray, List.map_cons, List.map_nil]); first | done | (rw [show t334.length = t320.length from (Kd.R_reads' HO_325000.out).1.symm] <;> rfl) | rfl | (simp only [List.length_drop, List.length_take]; rfl)) ?_; (with_reducible refine (laws_heldDisk.calls kj85 _ _ t334 1 t335 _ ?side1 ?side2 A122.out).mono ?_); (case side1 => repeat (first | exact (Kd.R_reads' HO_325000.out).2.2 | (with_reducible refine Kd.C_alloc ?_ _) | (with_reducible refine Kd.C_drewN ?_ _) | (with_reducible refine Kd.C_drew ?_))); (case side2 => rw [show t334.length = t320.length from (Kd.R_reads' HO_325000.out).1.symm]; exact (Kd.R_reads' HO_325000.out).2.1); rintro e w136 ⟨rfl, hb⟩; refine ⟨_, rfl, ?_⟩; replace HO_312000 := Aside0.mk (Kd.R_below t22_ hb); replace HO_316000 := Aside0.mk (Kd.R_below t23_ hb); replace HO_325000 := Aside0.mk (Kd.R_below t24_ hb); replace BK296 := bkN BK296 hb; replace BK297 := bkN BK297 hb; replace BK311 := bkN BK311 hb; replace BK315 := bkN BK315 hb; replace BK324 := bkN BK324 hb; replace HB := Aside0.mk (below_step t7_ hb); (try clear hb); (try clear hb2); (try clear hk); (try clear hi)))
                        replace HO_312000 := Aside0.mk (Kd.R_drew HO_312000.out)
                        replace HO_316000 := Aside0.mk (Kd.R_drew HO_316000.out)
                        replace HO_325000 := Aside0.mk (Kd.R_drew HO_325000.out)
                        replace BK296 := Aside0.mk (blk_drew BK296.out)
                        replace BK297 := Aside0.mk (blk_drew BK297.out)
                        replace BK311 := Aside0.mk (blk_drew BK311.out)
                        replace BK315 := Aside0.mk (blk_drew BK315.out)
                        replace BK324 := Aside0.mk (blk_drew BK324.out)
                        replace HB := Aside0.mk (below_drew1 HB.out)
                        refine start_ (n := 11) (S := fun w' => w'.cell? ⟨gb296, 0, none⟩ = some (.slice A0_0 l0_0.length c0_0) ∧ w'.cell? ⟨gb297, 0, none⟩ = some (.int .i64 a1_0) ∧ w'.cell? ⟨gb297, 1, none⟩ = some (.string a1_1) ∧ w'.cell? ⟨gb297, 2, none⟩ = some (.string a1_2) ∧ w'.cell? ⟨gb297, 3, none⟩ = some (.string a1_3)) (ds := []) #[false, false, false, false, false, false, false, false, false, false, false] (by kernel_rfl) rfl rfl ⟨bc0 BK296, bc0 BK297, bc1 BK297, bc2 BK297, bc3 BK297⟩ (fun hHeld => ?_); refine with_tabW laws_FnExactPutRaw.tab27 laws_FnExactPutRaw.bits27 (fun HT_ HW_ => ?_)
                        generalize w136.drew = w137 at HO_312000 HO_316000 HO_325000 BK296 BK297 BK311 BK315 BK324 HB hHeld ⊢
                        refine take_ (i := 0) (N := some 85) (v := ?_) (a' := ?_) #[true, false, false, false, false, false, false, false, false, false, false] rfl rfl (take_ofW HT_.out HW_.out (by kernel_rfl)) (fun _ _ _ h => h) (Or.inl ⟨by rfl, ?_⟩) hHeld ?_ ?_
                        rotate_left
                        · rintro w' ⟨s0, s1, s2, s3, s4⟩
                          go_simp
                          with_reducible rfl
                        rotate_left
                        · simp only [Act.put, List.setIfInBounds_toArray, List.set_cons_zero, List.set_cons_succ, i64_w, i32_w]
                          rfl
                        refine take_ (i := 2) (N := some 87) (v := ?_) (a' := ?_) #[true, false, true, false, false, false, false, false, false, false, false] rfl rfl (take_ofW HT_.out HW_.out (by kernel_rfl)) (fun _ _ _ h => h) (Or.inl ⟨by rfl, ?_⟩) hHeld ?_ ?_
                        rotate_left
                        · rintro w' ⟨s0, s1, s2, s3, s4⟩
                          go_simp
                          with_reducible rfl
                        rotate_left
                        · simp only [Act.put, List.setIfInBounds_toArray, List.set_cons_zero, List.set_cons_succ, i64_w, i32_w]
                          rfl
                        refine join_ (σ := Value × Value × Nat) 2 #[true, true, true, true, true, true, true, true, true, false, false] (fun s_ => [(86, .agg #[s_.1]), (88, .agg #[.int .i64 t339, .string t340, .string t341, .string t342]), (89, .tuple #[.agg #[s_.2.1], .bool t346]), (14, .pointer (some ⟨s_.2.2, 0, none⟩)), (84, .tuple #[.agg #[s_.2.1], .bool t346]), (90, .agg #[s_.2.1]), (91, .bool t346)]) (fun s_ w' => (w'.cell? ⟨gb296, 0, none⟩ = some (.slice A0_0 l0_0.length c0_0) ∧ w'.cell? ⟨gb297, 0, none⟩ = some (.int .i64 a1_0) ∧ w'.cell? ⟨gb297, 1, none⟩ = some (.string a1_1) ∧ w'.cell? ⟨gb297, 2, none⟩ = some (.string a1_2) ∧ w'.cell? ⟨gb297, 3, none⟩ = some (.string a1_3)) ∧ (Kd.R k71 71 w' w.heap.size (fun k_ => some k_ ≠ (s_.2.1 : Value).ownBlock ∧ some k_ ≠ (.slice Ao40 t307.length co40 : Value).ownBlock ∧ some k_ ≠ (.slice Ao46 t331.length co46 : Value).ownBlock ∧ some k_ ≠ (.slice Ao57 t320.length co57 : Value).ownBlock) s_.1 t336) ∧ (Kd.R k71 71 w' w.heap.size (fun k_ => some k_ ≠ (s_.1 : Value).ownBlock ∧ some k_ ≠ (.slice Ao40 t307.length co40 : Value).ownBlock ∧ some k_ ≠ (.slice Ao46 t331.length co46 : Value).ownBlock ∧ some k_ ≠ (.slice Ao57 t320.length co57 : Value).ownBlock) s_.2.1 t343) ∧ (Kd.R k71 71 w' w.heap.size (fun k_ => some k_ ≠ (s_.1 : Value).ownBlock ∧ some k_ ≠ (s_.2.1 : Value).ownBlock ∧ some k_ ≠ (.slice Ao46 t331.length co46 : Value).ownBlock ∧ some k_ ≠ (.slice Ao57 t320.length co57 : Value).ownBlock) (.slice Ao40 t307.length co40) t307) ∧ (Kd.R k71 71 w' w.heap.size (fun k_ => some k_ ≠ (s_.1 : Value).ownBlock ∧ some k_ ≠ (s_.2.1 : Value).ownBlock ∧ some k_ ≠ (.slice Ao40 t307.length co40 : Value).ownBlock ∧ some k_ ≠ (.slice Ao57 t320.length co57 : Value).ownBlock) (.slice Ao46 t331.length co46) t331) ∧ (Kd.R k71 71 w' w.heap.size (fun k_ => some k_ ≠ (s_.1 : Value).ownBlock ∧ some k_ ≠ (s_.2.1 : Value).ownBlock ∧ some k_ ≠ (.slice Ao40 t307.length co40 : Value).ownBlock ∧ some k_ ≠ (.slice Ao46 t331.length co46 : Value).ownBlock) (.slice Ao57 t320.length co57) t334) ∧ (w'.heap[gb296]? = some (.cells #[.slice A0_0 l0_0.length c0_0] 24 (0, 0))) ∧ (w'.heap[gb297]? = some (.cells #[.int .i64 a1_0, .string a1_1, .string a1_2, .string a1_3] 73 (0, 0))) ∧ (w'.heap[gb311]? = some (.cells #[.slice Ao40 t307.length co40] 30 (0, 0))) ∧ (w'.heap[gb315]? = some (.cells #[.slice Ao46 t331.length co46] 30 (0, 0))) ∧ (w'.heap[gb324]? = some (.cells #[.slice Ao57 t320.length co57] 30 (0, 0))) ∧ (w'.heap[s_.2.2]? = some (.cells #[.slice none 0 0] 30 (0, 0))) ∧ (w.heap.size ≤ s_.2.2) ∧ (w.heap.size ≤ s_.2.2) ∧ (gb296 ≠ s_.2.2) ∧ (s_.2.2 ≠ gb296) ∧ (gb297 ≠ s_.2.2) ∧ (s_.2.2 ≠ gb297) ∧ (gb311 ≠ s_.2.2) ∧ (s_.2.2 ≠ gb311) ∧ (gb315 ≠ s_.2.2) ∧ (s_.2.2 ≠ gb315) ∧ (gb324 ≠ s_.2.2) ∧ (s_.2.2 ≠ gb324) ∧ (Below w.heap.size w w')) ?_ ?_
                        rotate_left
                        · intro hCont
                          refine two_ (i := 1) (j := 8) (Ni := some 86) (Nj := some 14) #[true, true, true, false, false, false, false, false, false, false, false] #[true, false, true, false, false, false, false, false, true, false, false] rfl rfl rfl rfl (two_of HT_.out (by kernel_rfl)) (by decide) (by decide) (fun K hK => ?_) (fun K hK => ?_)
                          · skip
                            refine goes_ Try.func14 (by kernel_rfl) rfl #[.agg #[.slice A0_0 l0_0.length c0_0]] (by rfl) rfl rfl t2_ ?_
                            with_reducible refine (laws_toDisk.calls kj85 _ _ l0_0 t336 _ ?side1 ?side2 A125.out).mono ?_
                            (case side1 => exact cB HR0_0 HB)
                            (case side2 => exact HC0_0.out)
                            rintro e w138 ⟨v337, rfl, ho0, hb⟩
                            refine ⟨_, rfl, ?_⟩
                            have HO338 := Aside0.mk (Kd.R_lower (Kd.R_new' (Kd.R_new' (Kd.R_new' ho0 (Kd.R_lt t22_)) (Kd.R_lt t23_)) (Kd.R_lt t24_)) (below_size t7_))
                            replace HO_312000 := Aside0.mk (Kd.R_elder' t22_ (Kd.R_base ho0) hb)
                            replace HO_316000 := Aside0.mk (Kd.R_elder' t23_ (Kd.R_base ho0) hb)
                            replace HO_325000 := Aside0.mk (Kd.R_elder' t24_ (Kd.R_base ho0) hb)
                            replace BK296 := bkN BK296 hb
                            replace BK297 := bkN BK297 hb
                            replace BK311 := bkN BK311 hb
                            replace BK315 := bkN BK315 hb
                            replace BK324 := bkN BK324 hb
                            replace HB := Aside0.mk (below_step t7_ hb)
                            (try clear hb)
                            (try clear hb2)
                            (try clear hk)
                            (try clear hi)
                            (try clear ho0)
                            refine hK.out _ _ ⟨bc0 BK296, bc0 BK297, bc1 BK297, bc2 BK297, bc3 BK297⟩ (fun hHeld => ?_)
                            clear hK K
                            refine norm_ (a' := ?_) ?_ ?_
                            rotate_left
                            · show Act.put _ (some 86) _ = _
                              simp only [Act.put, List.setIfInBounds_toArray, List.set_cons_zero, List.set_cons_succ, i64_w, i32_w]
                              rfl
                            refine two_ (i := 3) (j := 8) (Ni := some 88) (Nj := some 14) #[true, true, true, true, false, false, false, false, false, false, false] #[true, true, true, false, false, false, false, false, true, false, false] rfl rfl rfl rfl (two_of HT_.out (by kernel_rfl)) (by decide) (by decide) (fun K hK => ?_) (fun K hK => ?_)
                            · skip
                              refine goes_ Try.func37 (by kernel_rfl) rfl #[.agg #[.int .i64 a1_0, .string a1_1, .string a1_2, .string a1_3]] (by rfl) rfl rfl t2_ ?_
                              with_reducible refine (laws_toRaw.calls a1_0 a1_1 a1_2 a1_3 t339 t340 t341 t342 _ A126.out).mono ?_
                              rintro e w139 ⟨rfl, hb⟩
                              refine ⟨_, rfl, ?_⟩
                              replace HO_312000 := Aside0.mk (Kd.R_below t22_ hb)
                              replace HO_316000 := Aside0.mk (Kd.R_below t23_ hb)
                              replace HO_325000 := Aside0.mk (Kd.R_below t24_ hb)
                              replace HO338 := Aside0.mk (Kd.R_below t38_ hb)
                              replace BK296 := bkN BK296 hb
                              replace BK297 := bkN BK297 hb
                              replace BK311 := bkN BK311 hb
                              replace BK315 := bkN BK315 hb
                              replace BK324 := bkN BK324 hb
                              replace HB := Aside0.mk (below_step t7_ hb)
                              (try clear hb)
                              (try clear hb2)
                              (try clear hk)
                              (try clear hi)
                              obtain ⟨Ao140, co140, eo140⟩ := Kd.R_slice HO338.out
                              (first | subst eo140 | (injection eo140 with f1_ f2_ f3_; have f4_ := f1_.symm; have f5_ := f3_.symm; clear f1_ f2_ f3_; subst f4_; subst f5_))
                              refine hK.out _ _ ⟨bc0 BK296, bc0 BK297, bc1 BK297, bc2 BK297, bc3 BK297⟩ (fun hHeld => ?_)
                              clear hK K
                              refine norm_ (a' := ?_) ?_ ?_
                              rotate_left
                              · show Act.put _ (some 88) _ = _
                                simp only [Act.put, List.setIfInBounds_toArray, List.set_cons_zero, List.set_cons_succ, i64_w, i32_w]
                                rfl
                              refine two_ (i := 4) (j := 8) (Ni := some 89) (Nj := some 14) #[true, true, true, true, true, false, false, false, false, false, false] #[true, true, true, true, false, false, false, false, true, false, false] rfl rfl rfl rfl (two_of HT_.out (by kernel_rfl)) (by decide) (by decide) (fun K hK => ?_) (fun K hK => ?_)
                              · skip
                                refine goes_ Try.func38 (by kernel_rfl) rfl #[.agg #[.slice Ao140 t336.length co140], .agg #[.int .i64 t339, .string t340, .string t341, .string t342]] (by rfl) rfl rfl t2_ ?_
                                with_reducible refine (impl_PutRaw.calls kj85 _ _ t336 t339 t340 t341 t342 t343 t346 _ ?side1 ?side2 A127.out).mono ?_
                                (case side1 => repeat (first | exact (Kd.R_reads' HO338.out).2.2 | (with_reducible refine Kd.C_alloc ?_ _) | (with_reducible refine Kd.C_drewN ?_ _) | (with_reducible refine Kd.C_drew ?_)))
                                (case side2 => exact (Kd.R_reads' HO338.out).2.1)
                                rintro e w141 ⟨v344, rfl, ho0, hb⟩
                                refine ⟨_, rfl, ?_⟩
                                have HO345 := Aside0.mk (Kd.R_lower (Kd.R_new' (Kd.R_new' (Kd.R_new' (Kd.R_new' ho0 (Kd.R_lt t22_)) (Kd.R_lt t23_)) (Kd.R_lt t24_)) (Kd.R_lt t38_)) (below_size t7_))
                                replace HO_312000 := Aside0.mk (Kd.R_elder' t22_ (Kd.R_base ho0) hb)
                                replace HO_316000 := Aside0.mk (Kd.R_elder' t23_ (Kd.R_base ho0) hb)
                                replace HO_325000 := Aside0.mk (Kd.R_elder' t24_ (Kd.R_base ho0) hb)
                                replace HO338 := Aside0.mk (Kd.R_elder' t38_ (Kd.R_base ho0) hb)
                                replace BK296 := bkN BK296 hb
                                replace BK297 := bkN BK297 hb
                                replace BK311 := bkN BK311 hb
                                replace BK315 := bkN BK315 hb
                                replace BK324 := bkN BK324 hb
                                replace HB := Aside0.mk (below_step t7_ hb)
                                (try clear hb)
                                (try clear hb2)
                                (try clear hk)
                                (try clear hi)
                                (try clear ho0)
                                refine hK.out _ _ ⟨bc0 BK296, bc0 BK297, bc1 BK297, bc2 BK297, bc3 BK297⟩ (fun hHeld => ?_)
                                clear hK K
                                refine norm_ (a' := ?_) ?_ ?_
                                rotate_left
                                · show Act.put _ (some 89) _ = _
                                  simp only [Act.put, List.setIfInBounds_toArray, List.set_cons_zero, List.set_cons_succ, i64_w, i32_w]
                                  rfl
                                refine pure_ (i := 5) (N := some 84) (v := ?_) (a' := ?_) #[true, true, true, true, true, true, false, false, false, false, false] rfl rfl (any_of HT_.out (by kernel_rfl)) (fun _ _ _ h => h) (Or.inl ⟨by rfl, ?_⟩) ?_ ?_
                                rotate_left
                                · intro w'
                                  go_simp
                                  with_reducible rfl
                                rotate_left
                                · simp only [Act.put, List.setIfInBounds_toArray, List.set_cons_zero, List.set_cons_succ, i64_w, i32_w]
                                  rfl
                                refine pure_ (i := 6) (N := some 90) (v := ?_) (a' := ?_) #[true, true, true, true, true, true, true, false, false, false, false] rfl rfl (any_of HT_.out (by kernel_rfl)) (fun _ _ _ h => h) (Or.inl ⟨by rfl, ?_⟩) ?_ ?_
                                rotate_left
                                · intro w'
                                  go_simp
                                  with_reducible rfl
                                rotate_left
                                · simp only [Act.put, List.setIfInBounds_toArray, List.set_cons_zero, List.set_cons_succ, i64_w, i32_w]
                                  rfl
                                refine pure_ (i := 7) (N := some 91) (v := ?_) (a' := ?_) #[true, true, true, true, true, true, true, true, false, false, false] rfl rfl (any_of HT_.out (by kernel_rfl)) (fun _ _ _ h => h) (Or.inl ⟨by rfl, ?_⟩) ?_ ?_
                                rotate_left
                                · intro w'
                                  go_simp
                                  with_reducible rfl
                                rotate_left
                                · simp only [Act.put, List.setIfInBounds_toArray, List.set_cons_zero, List.set_cons_succ, i64_w, i32_w]
                                  rfl
                                refine one_ (i := 8) (N := some 14) #[true, true, true, true, true, true, true, true, true, false, false] rfl rfl (one_of HT_.out (by kernel_rfl)) (by decide) (fun K hK => ?_)
                                refine box_step ?hg (N := 14) ?hd (cs := #[.slice none 0 0]) (t := 30) ?hr ?_; (case hd => rfl); (case hg => rfl); (case hr => first | (go_simp; done) | (go_simp; rfl))
                                intro gb347 hg w142 hbox hb
                                replace HO_312000 := Aside0.mk (Kd.R_below t22_ hb)
                                replace HO_316000 := Aside0.mk (Kd.R_below t23_ hb)
                                replace HO_325000 := Aside0.mk (Kd.R_below t24_ hb)
                                replace HO338 := Aside0.mk (Kd.R_below t38_ hb)
                                replace HO345 := Aside0.mk (Kd.R_below (by (with_reducible repeat (first | apply Kd.R_alloc | apply Kd.R_drewN | apply Kd.R_drew)); exact HO345.out) hb)
                                have BK347 := Aside0.mk (hbox)
                                have GW347 := Aside0.mk ((t27_ : w.heap.size ≤ gb347))
                                have GE347 := Aside0.mk ((t27_ : w.heap.size ≤ gb347))
                                replace HB := Aside0.mk (below_step t7_ hb)
                                have NB296_347 := nbL BK296 hg
                                have NB347_296 := nbG BK296 hg
                                replace BK296 := bkN BK296 hb
                                have NB297_347 := nbL BK297 hg
                                have NB347_297 := nbG BK297 hg
                                replace BK297 := bkN BK297 hb
                                have NB311_347 := nbL BK311 hg
                                have NB347_311 := nbG BK311 hg
                                replace BK311 := bkN BK311 hb
                                have NB315_347 := nbL BK315 hg
                                have NB347_315 := nbG BK315 hg
                                replace BK315 := bkN BK315 hb
                                have NB324_347 := nbL BK324 hg
                                have NB347_324 := nbG BK324 hg
                                replace BK324 := bkN BK324 hb
                                clear hb hbox hg
                                refine hK.out _ _ ⟨bc0 BK296, bc0 BK297, bc1 BK297, bc2 BK297, bc3 BK297⟩ (fun hHeld => ?_)
                                clear hK K
                                refine norm_ (a' := ?_) ?_ ?_
                                rotate_left
                                · show Act.put _ (some 14) _ = _
                                  simp only [Act.put, List.setIfInBounds_toArray, List.set_cons_zero, List.set_cons_succ, i64_w, i32_w]
                                  rfl
                                exact norm_ t53_ (hCont (.slice Ao140 t336.length co140, v344, gb347) _ ⟨hHeld, (by (with_reducible repeat (first | apply Kd.R_alloc | apply Kd.R_drewN | apply Kd.R_drew)); exact Kd.R_mono HO338.out (fun _ hk => ⟨hk.2, ⟨hk.1.1.1.2, ⟨hk.1.1.2, hk.1.2⟩⟩⟩)), (by (with_reducible repeat (first | apply Kd.R_alloc | apply Kd.R_drewN | apply Kd.R_drew)); exact Kd.R_mono HO345.out (fun _ hk => ⟨hk.2, ⟨hk.1.1.1.2, ⟨hk.1.1.2, hk.1.2⟩⟩⟩)), (by (with_reducible repeat (first | apply Kd.R_alloc | apply Kd.R_drewN | apply Kd.R_drew)); exact Kd.R_mono HO_312000.out (fun _ hk => ⟨hk.1.2, ⟨hk.2, ⟨hk.1.1.1, hk.1.1.2⟩⟩⟩)), (by (with_reducible repeat (first | apply Kd.R_alloc | apply Kd.R_drewN | apply Kd.R_drew)); exact Kd.R_mono HO_316000.out (fun _ hk => ⟨hk.1.2, ⟨hk.2, ⟨hk.1.1.1, hk.1.1.2⟩⟩⟩)), (by (with_reducible repeat (first | apply Kd.R_alloc | apply Kd.R_drewN | apply Kd.R_drew)); exact Kd.R_mono HO_325000.out (fun _ hk => ⟨hk.1.2, ⟨hk.2, ⟨hk.1.1.1, hk.1.1.2⟩⟩⟩)), t34_, t35_, t36_, t51_, t52_, t69_, GW347.out, GE347.out, NB296_347.out, NB347_296.out, NB297_347.out, NB347_297.out, NB311_347.out, NB347_311.out, NB315_347.out, NB347_315.out, NB324_347.out, NB347_324.out, t14_⟩)
                              · skip
                                refine box_step ?hg (N := 14) ?hd (cs := #[.slice none 0 0]) (t := 30) ?hr ?_; (case hd => rfl); (case hg => rfl); (case hr => first | (go_simp; done) | (go_simp; rfl))
                                intro gb347 hg w140 hbox hb
                                replace HO_312000 := Aside0.mk (Kd.R_below t22_ hb)
                                replace HO_316000 := Aside0.mk (Kd.R_below t23_ hb)
                                replace HO_325000 := Aside0.mk (Kd.R_below t24_ hb)
                                replace HO338 := Aside0.mk (Kd.R_below t38_ hb)
                                have BK347 := Aside0.mk (hbox)
                                have GW347 := Aside0.mk ((t27_ : w.heap.size ≤ gb347))
                                have GE347 := Aside0.mk ((t27_ : w.heap.size ≤ gb347))
                                replace HB := Aside0.mk (below_step t7_ hb)
                                have NB296_347 := nbL BK296 hg
                                have NB347_296 := nbG BK296 hg
                                replace BK296 := bkN BK296 hb
                                have NB297_347 := nbL BK297 hg
                                have NB347_297 := nbG BK297 hg
                                replace BK297 := bkN BK297 hb
                                have NB311_347 := nbL BK311 hg
                                have NB347_311 := nbG BK311 hg
                                replace BK311 := bkN BK311 hb
                                have NB315_347 := nbL BK315 hg
                                have NB347_315 := nbG BK315 hg
                                replace BK315 := bkN BK315 hb
                                have NB324_347 := nbL BK324 hg
                                have NB347_324 := nbG BK324 hg
                                replace BK324 := bkN BK324 hb
                                clear hb hbox hg
                                obtain ⟨Ao141, co141, eo141⟩ := Kd.R_slice HO338.out
                                (first | subst eo141 | (injection eo141 with f1_ f2_ f3_; have f4_ := f1_.symm; have f5_ := f3_.symm; clear f1_ f2_ f3_; subst f4_; subst f5_))
                                refine hK.out _ _ ⟨bc0 BK296, bc0 BK297, bc1 BK297, bc2 BK297, bc3 BK297⟩ (fun hHeld => ?_)
                                clear hK K
                                refine norm_ (a' := ?_) ?_ ?_
                                rotate_left
                                · show Act.put _ (some 14) _ = _
                                  simp only [Act.put, List.setIfInBounds_toArray, List.set_cons_zero, List.set_cons_succ, i64_w, i32_w]
                                  rfl
                                refine one_ (i := 4) (N := some 89) #[true, true, true, true, true, false, false, false, true, false, false] rfl rfl (one_of HT_.out (by kernel_rfl)) (by decide) (fun K hK => ?_)
                                refine goes_ Try.func38 (by kernel_rfl) rfl #[.agg #[.slice Ao141 t336.length co141], .agg #[.int .i64 t339, .string t340, .string t341, .string t342]] (by rfl) rfl rfl t2_ ?_
                                with_reducible refine (impl_PutRaw.calls kj85 _ _ t336 t339 t340 t341 t342 t343 t346 _ ?side1 ?side2 A127.out).mono ?_
                                (case side1 => repeat (first | exact (Kd.R_reads' HO338.out).2.2 | (with_reducible refine Kd.C_alloc ?_ _) | (with_reducible refine Kd.C_drewN ?_ _) | (with_reducible refine Kd.C_drew ?_)))
                                (case side2 => exact (Kd.R_reads' HO338.out).2.1)
                                rintro e w142 ⟨v344, rfl, ho0, hb⟩
                                refine ⟨_, rfl, ?_⟩
                                have HO345 := Aside0.mk (Kd.R_lower (Kd.R_new' (Kd.R_new' (Kd.R_new' (Kd.R_new' ho0 (Kd.R_lt t22_)) (Kd.R_lt t23_)) (Kd.R_lt t24_)) (Kd.R_lt t38_)) (below_size t14_))
                                replace HO_312000 := Aside0.mk (Kd.R_elder' t22_ (Kd.R_base ho0) hb)
                                replace HO_316000 := Aside0.mk (Kd.R_elder' t23_ (Kd.R_base ho0) hb)
                                replace HO_325000 := Aside0.mk (Kd.R_elder' t24_ (Kd.R_base ho0) hb)
                                replace HO338 := Aside0.mk (Kd.R_elder' t38_ (Kd.R_base ho0) hb)
                                replace BK296 := bkN BK296 hb
                                replace BK297 := bkN BK297 hb
                                replace BK311 := bkN BK311 hb
                                replace BK315 := bkN BK315 hb
                                replace BK324 := bkN BK324 hb
                                replace BK347 := bkN BK347 hb
                                replace HB := Aside0.mk (below_step t14_ hb)
                                (try clear hb)
                                (try clear hb2)
                                (try clear hk)
                                (try clear hi)
                                (try clear ho0)
                                refine hK.out _ _ ⟨bc0 BK296, bc0 BK297, bc1 BK297, bc2 BK297, bc3 BK297⟩ (fun hHeld => ?_)
                                clear hK K
                                refine norm_ (a' := ?_) ?_ ?_
                                rotate_left
                                · show Act.put _ (some 89) _ = _
                                  simp only [Act.put, List.setIfInBounds_toArray, List.set_cons_zero, List.set_cons_succ, i64_w, i32_w]
                                  rfl
                                refine pure_ (i := 5) (N := some 84) (v := ?_) (a' := ?_) #[true, true, true, true, true, true, false, false, true, false, false] rfl rfl (any_of HT_.out (by kernel_rfl)) (fun _ _ _ h => h) (Or.inl ⟨by rfl, ?_⟩) ?_ ?_
                                rotate_left
                                · intro w'
                                  go_simp
                                  with_reducible rfl
                                rotate_left
                                · simp only [Act.put, List.setIfInBounds_toArray, List.set_cons_zero, List.set_cons_succ, i64_w, i32_w]
                                  rfl
                                refine pure_ (i := 6) (N := some 90) (v := ?_) (a' := ?_) #[true, true, true, true, true, true, true, false, true, false, false] rfl rfl (any_of HT_.out (by kernel_rfl)) (fun _ _ _ h => h) (Or.inl ⟨by rfl, ?_⟩) ?_ ?_
                                rotate_left
                                · intro w'
                                  go_simp
                                  with_reducible rfl
                                rotate_left
                                · simp only [Act.put, List.setIfInBounds_toArray, List.set_cons_zero, List.set_cons_succ, i64_w, i32_w]
                                  rfl
                                refine pure_ (i := 7) (N := some 91) (v := ?_) (a' := ?_) #[true, true, true, true, true, true, true, true, true, false, false] rfl rfl (any_of HT_.out (by kernel_rfl)) (fun _ _ _ h => h) (Or.inl ⟨by rfl, ?_⟩) ?_ ?_
                                rotate_left
                                · intro w'
                                  go_simp
                                  with_reducible rfl
                                rotate_left
                                · simp only [Act.put, List.setIfInBounds_toArray, List.set_cons_zero, List.set_cons_succ, i64_w, i32_w]
                                  rfl
                                exact norm_ t53_ (hCont (.slice Ao141 t336.length co141, v344, gb347) _ ⟨hHeld, (by (with_reducible repeat (first | apply Kd.R_alloc | apply Kd.R_drewN | apply Kd.R_drew)); exact Kd.R_mono HO338.out (fun _ hk => ⟨hk.2, ⟨hk.1.1.1.2, ⟨hk.1.1.2, hk.1.2⟩⟩⟩)), (by (with_reducible repeat (first | apply Kd.R_alloc | apply Kd.R_drewN | apply Kd.R_drew)); exact Kd.R_mono HO345.out (fun _ hk => ⟨hk.2, ⟨hk.1.1.1.2, ⟨hk.1.1.2, hk.1.2⟩⟩⟩)), (by (with_reducible repeat (first | apply Kd.R_alloc | apply Kd.R_drewN | apply Kd.R_drew)); exact Kd.R_mono HO_312000.out (fun _ hk => ⟨hk.1.2, ⟨hk.2, ⟨hk.1.1.1, hk.1.1.2⟩⟩⟩)), (by (with_reducible repeat (first | apply Kd.R_alloc | apply Kd.R_drewN | apply Kd.R_drew)); exact Kd.R_mono HO_316000.out (fun _ hk => ⟨hk.1.2, ⟨hk.2, ⟨hk.1.1.1, hk.1.1.2⟩⟩⟩)), (by (with_reducible repeat (first | apply Kd.R_alloc | apply Kd.R_drewN | apply Kd.R_drew)); exact Kd.R_mono HO_325000.out (fun _ hk => ⟨hk.1.2, ⟨hk.2, ⟨hk.1.1.1, hk.1.1.2⟩⟩⟩)), t34_, t35_, t36_, t51_, t52_, t69_, GW347.out, GE347.out, NB296_347.out, NB347_296.out, NB297_347.out, NB347_297.out, NB311_347.out, NB347_311.out, NB315_347.out, NB347_315.out, NB324_347.out, NB347_324.out, t14_⟩)
                            · skip
                              refine box_step ?hg (N := 14) ?hd (cs := #[.slice none 0 0]) (t := 30) ?hr ?_; (case hd => rfl); (case hg => rfl); (case hr => first | (go_simp; done) | (go_simp; rfl))
                              intro gb347 hg w139 hbox hb
                              replace HO_312000 := Aside0.mk (Kd.R_below t22_ hb)
                              replace HO_316000 := Aside0.mk (Kd.R_below t23_ hb)
                              replace HO_325000 := Aside0.mk (Kd.R_below t24_ hb)
                              replace HO338 := Aside0.mk (Kd.R_below t38_ hb)
                              have BK347 := Aside0.mk (hbox)
                              have GW347 := Aside0.mk ((t27_ : w.heap.size ≤ gb347))
                              have GE347 := Aside0.mk ((t27_ : w.heap.size ≤ gb347))
                              replace HB := Aside0.mk (below_step t7_ hb)
                              have NB296_347 := nbL BK296 hg
                              have NB347_296 := nbG BK296 hg
                              replace BK296 := bkN BK296 hb
                              have NB297_347 := nbL BK297 hg
                              have NB347_297 := nbG BK297 hg
                              replace BK297 := bkN BK297 hb
                              have NB311_347 := nbL BK311 hg
                              have NB347_311 := nbG BK311 hg
                              replace BK311 := bkN BK311 hb
                              have NB315_347 := nbL BK315 hg
                              have NB347_315 := nbG BK315 hg
                              replace BK315 := bkN BK315 hb
                              have NB324_347 := nbL BK324 hg
                              have NB347_324 := nbG BK324 hg
                              replace BK324 := bkN BK324 hb
                              clear hb hbox hg
                              refine hK.out _ _ ⟨bc0 BK296, bc0 BK297, bc1 BK297, bc2 BK297, bc3 BK297⟩ (fun hHeld => ?_)
                              clear hK K
                              refine norm_ (a' := ?_) ?_ ?_
                              rotate_left
                              · show Act.put _ (some 14) _ = _
                                simp only [Act.put, List.setIfInBounds_toArray, List.set_cons_zero, List.set_cons_succ, i64_w, i32_w]
                                rfl
                              refine one_ (i := 3) (N := some 88) #[true, true, true, true, false, false, false, false, true, false, false] rfl rfl (one_of HT_.out (by kernel_rfl)) (by decide) (fun K hK => ?_)
                              refine goes_ Try.func37 (by kernel_rfl) rfl #[.agg #[.int .i64 a1_0, .string a1_1, .string a1_2, .string a1_3]] (by rfl) rfl rfl t2_ ?_
                              with_reducible refine (laws_toRaw.calls a1_0 a1_1 a1_2 a1_3 t339 t340 t341 t342 _ A126.out).mono ?_
                              rintro e w140 ⟨rfl, hb⟩
                              refine ⟨_, rfl, ?_⟩
                              replace HO_312000 := Aside0.mk (Kd.R_below t22_ hb)
                              replace HO_316000 := Aside0.mk (Kd.R_below t23_ hb)
                              replace HO_325000 := Aside0.mk (Kd.R_below t24_ hb)
                              replace HO338 := Aside0.mk (Kd.R_below t38_ hb)
                              replace BK296 := bkN BK296 hb
                              replace BK297 := bkN BK297 hb
                              replace BK311 := bkN BK311 hb
                              replace BK315 := bkN BK315 hb
                              replace BK324 := bkN BK324 hb
                              replace BK347 := bkN BK347 hb
                              replace HB := Aside0.mk (below_step t14_ hb)
                              (try clear hb)
                              (try clear hb2)
                              (try clear hk)
                              (try clear hi)
                              obtain ⟨Ao141, co141, eo141⟩ := Kd.R_slice HO338.out
                              (first | subst eo141 | (injection eo141 with f1_ f2_ f3_; have f4_ := f1_.symm; have f5_ := f3_.symm; clear f1_ f2_ f3_; subst f4_; subst f5_))
                              refine hK.out _ _ ⟨bc0 BK296, bc0 BK297, bc1 BK297, bc2 BK297, bc3 BK297⟩ (fun hHeld => ?_)
                              clear hK K
                              refine norm_ (a' := ?_) ?_ ?_
                              rotate_left
                              · show Act.put _ (some 88) _ = _
                                simp only [Act.put, List.setIfInBounds_toArray, List.set_cons_zero, List.set_cons_succ, i64_w, i32_w]
                                rfl
                              refine one_ (i := 4) (N := some 89) #[true, true, true, true, true, false, false, false, true, false, false] rfl rfl (one_of HT_.out (by kernel_rfl)) (by decide) (fun K hK => ?_)
                              refine goes_ Try.func38 (by kernel_rfl) rfl #[.agg #[.slice Ao141 t336.length co141], .agg #[.int .i64 t339, .string t340, .string t341, .string t342]] (by rfl) rfl rfl t2_ ?_
                              with_reducible refine (impl_PutRaw.calls kj85 _ _ t336 t339 t340 t341 t342 t343 t346 _ ?side1 ?side2 A127.out).mono ?_
                              (case side1 => repeat (first | exact (Kd.R_reads' HO338.out).2.2 | (with_reducible refine Kd.C_alloc ?_ _) | (with_reducible refine Kd.C_drewN ?_ _) | (with_reducible refine Kd.C_drew ?_)))
                              (case side2 => exact (Kd.R_reads' HO338.out).2.1)
                              rintro e w142 ⟨v344, rfl, ho0, hb⟩
                              refine ⟨_, rfl, ?_⟩
                              have HO345 := Aside0.mk (Kd.R_lower (Kd.R_new' (Kd.R_new' (Kd.R_new' (Kd.R_new' ho0 (Kd.R_lt t22_)) (Kd.R_lt t23_)) (Kd.R_lt t24_)) (Kd.R_lt t38_)) (below_size t14_))
                              replace HO_312000 := Aside0.mk (Kd.R_elder' t22_ (Kd.R_base ho0) hb)
                              replace HO_316000 := Aside0.mk (Kd.R_elder' t23_ (Kd.R_base ho0) hb)
                              replace HO_325000 := Aside0.mk (Kd.R_elder' t24_ (Kd.R_base ho0) hb)
                              replace HO338 := Aside0.mk (Kd.R_elder' t38_ (Kd.R_base ho0) hb)
                              replace BK296 := bkN BK296 hb
                              replace BK297 := bkN BK297 hb
                              replace BK311 := bkN BK311 hb
                              replace BK315 := bkN BK315 hb
                              replace BK324 := bkN BK324 hb
                              replace BK347 := bkN BK347 hb
                              replace HB := Aside0.mk (below_step t14_ hb)
                              (try clear hb)
                              (try clear hb2)
                              (try clear hk)
                              (try clear hi)
                              (try clear ho0)
                              refine hK.out _ _ ⟨bc0 BK296, bc0 BK297, bc1 BK297, bc2 BK297, bc3 BK297⟩ (fun hHeld => ?_)
                              clear hK K
                              refine norm_ (a' := ?_) ?_ ?_
                              rotate_left
                              · show Act.put _ (some 89) _ = _
                                simp only [Act.put, List.setIfInBounds_toArray, List.set_cons_zero, List.set_cons_succ, i64_w, i32_w]
                                rfl
                              refine pure_ (i := 5) (N := some 84) (v := ?_) (a' := ?_) #[true, true, true, true, true, true, false, false, true, false, false] rfl rfl (any_of HT_.out (by kernel_rfl)) (fun _ _ _ h => h) (Or.inl ⟨by rfl, ?_⟩) ?_ ?_
                              rotate_left
                              · intro w'
                                go_simp
                                with_reducible rfl
                              rotate_left
                              · simp only [Act.put, List.setIfInBounds_toArray, List.set_cons_zero, List.set_cons_succ, i64_w, i32_w]
                                rfl
                              refine pure_ (i := 6) (N := some 90) (v := ?_) (a' := ?_) #[true, true, true, true, true, true, true, false, true, false, false] rfl rfl (any_of HT_.out (by kernel_rfl)) (fun _ _ _ h => h) (Or.inl ⟨by rfl, ?_⟩) ?_ ?_
                              rotate_left
                              · intro w'
                                go_simp
                                with_reducible rfl
                              rotate_left
                              · simp only [Act.put, List.setIfInBounds_toArray, List.set_cons_zero, List.set_cons_succ, i64_w, i32_w]
                                rfl
                              refine pure_ (i := 7) (N := some 91) (v := ?_) (a' := ?_) #[true, true, true, true, true, true, true, true, true, false, false] rfl rfl (any_of HT_.out (by kernel_rfl)) (fun _ _ _ h => h) (Or.inl ⟨by rfl, ?_⟩) ?_ ?_
                              rotate_left
                              · intro w'
                                go_simp
                                with_reducible rfl
                              rotate_left
                              · simp only [Act.put, List.setIfInBounds_toArray, List.set_cons_zero, List.set_cons_succ, i64_w, i32_w]
                                rfl
                              exact norm_ t53_ (hCont (.slice Ao141 t336.length co141, v344, gb347) _ ⟨hHeld, (by (with_reducible repeat (first | apply Kd.R_alloc | apply Kd.R_drewN | apply Kd.R_drew)); exact Kd.R_mono HO338.out (fun _ hk => ⟨hk.2, ⟨hk.1.1.1.2, ⟨hk.1.1.2, hk.1.2⟩⟩⟩)), (by (with_reducible repeat (first | apply Kd.R_alloc | apply Kd.R_drewN | apply Kd.R_drew)); exact Kd.R_mono HO345.out (fun _ hk => ⟨hk.2, ⟨hk.1.1.1.2, ⟨hk.1.1.2, hk.1.2⟩⟩⟩)), (by (with_reducible repeat (first | apply Kd.R_alloc | apply Kd.R_drewN | apply Kd.R_drew)); exact Kd.R_mono HO_312000.out (fun _ hk => ⟨hk.1.2, ⟨hk.2, ⟨hk.1.1.1, hk.1.1.2⟩⟩⟩)), (by (with_reducible repeat (first | apply Kd.R_alloc | apply Kd.R_drewN | apply Kd.R_drew)); exact Kd.R_mono HO_316000.out (fun _ hk => ⟨hk.1.2, ⟨hk.2, ⟨hk.1.1.1, hk.1.1.2⟩⟩⟩)), (by (with_reducible repeat (first | apply Kd.R_alloc | apply Kd.R_drewN | apply Kd.R_drew)); exact Kd.R_mono HO_325000.out (fun _ hk => ⟨hk.1.2, ⟨hk.2, ⟨hk.1.1.1, hk.1.1.2⟩⟩⟩)), t34_, t35_, t36_, t51_, t52_, t69_, GW347.out, GE347.out, NB296_347.out, NB347_296.out, NB297_347.out, NB347_297.out, NB311_347.out, NB347_311.out, NB315_347.out, NB347_315.out, NB324_347.out, NB347_324.out, t14_⟩)
                          · skip
                            refine box_step ?hg (N := 14) ?hd (cs := #[.slice none 0 0]) (t := 30) ?hr ?_; (case hd => rfl); (case hg => rfl); (case hr => first | (go_simp; done) | (go_simp; rfl))
                            intro gb347 hg w138 hbox hb
                            replace HO_312000 := Aside0.mk (Kd.R_below t22_ hb)
                            replace HO_316000 := Aside0.mk (Kd.R_below t23_ hb)
                            replace HO_325000 := Aside0.mk (Kd.R_below t24_ hb)
                            have BK347 := Aside0.mk (hbox)
                            have GW347 := Aside0.mk ((t27_ : w.heap.size ≤ gb347))
                            have GE347 := Aside0.mk ((t27_ : w.heap.size ≤ gb347))
                            replace HB := Aside0.mk (below_step t7_ hb)
                            have NB296_347 := nbL BK296 hg
                            have NB347_296 := nbG BK296 hg
                            replace BK296 := bkN BK296 hb
                            have NB297_347 := nbL BK297 hg
                            have NB347_297 := nbG BK297 hg
                            replace BK297 := bkN BK297 hb
                            have NB311_347 := nbL BK311 hg
                            have NB347_311 := nbG BK311 hg
                            replace BK311 := bkN BK311 hb
                            have NB315_347 := nbL BK315 hg
                            have NB347_315 := nbG BK315 hg
                            replace BK315 := bkN BK315 hb
                            have NB324_347 := nbL BK324 hg
                            have NB347_324 := nbG BK324 hg
                            replace BK324 := bkN BK324 hb
                            clear hb hbox hg
                            refine hK.out _ _ ⟨bc0 BK296, bc0 BK297, bc1 BK297, bc2 BK297, bc3 BK297⟩ (fun hHeld => ?_)
                            clear hK K
                            refine norm_ (a' := ?_) ?_ ?_
                            rotate_left
                            · show Act.put _ (some 14) _ = _
                              simp only [Act.put, List.setIfInBounds_toArray, List.set_cons_zero, List.set_cons_succ, i64_w, i32_w]
                              rfl
                            refine one_ (i := 1) (N := some 86) #[true, true, true, false, false, false, false, false, true, false, false] rfl rfl (one_of HT_.out (by kernel_rfl)) (by decide) (fun K hK => ?_)
                            refine goes_ Try.func14 (by kernel_rfl) rfl #[.agg #[.slice A0_0 l0_0.length c0_0]] (by rfl) rfl rfl t2_ ?_
                            with_reducible refine (laws_toDisk.calls kj85 _ _ l0_0 t336 _ ?side1 ?side2 A125.out).mono ?_
                            (case side1 => exact cB HR0_0 HB)
                            (case side2 => exact HC0_0.out)
                            rintro e w139 ⟨v337, rfl, ho0, hb⟩
                            refine ⟨_, rfl, ?_⟩
                            have HO338 := Aside0.mk (Kd.R_lower (Kd.R_new' (Kd.R_new' (Kd.R_new' ho0 (Kd.R_lt t22_)) (Kd.R_lt t23_)) (Kd.R_lt t24_)) (below_size t14_))
                            replace HO_312000 := Aside0.mk (Kd.R_elder' t22_ (Kd.R_base ho0) hb)
                            replace HO_316000 := Aside0.mk (Kd.R_elder' t23_ (Kd.R_base ho0) hb)
                            replace HO_325000 := Aside0.mk (Kd.R_elder' t24_ (Kd.R_base ho0) hb)
                            replace BK296 := bkN BK296 hb
                            replace BK297 := bkN BK297 hb
                            replace BK311 := bkN BK311 hb
                            replace BK315 := bkN BK315 hb
                            replace BK324 := bkN BK324 hb
                            replace BK347 := bkN BK347 hb
                            replace HB := Aside0.mk (below_step t14_ hb)
                            (try clear hb)
                            (try clear hb2)
                            (try clear hk)
                            (try clear hi)
                            (try clear ho0)
                            refine hK.out _ _ ⟨bc0 BK296, bc0 BK297, bc1 BK297, bc2 BK297, bc3 BK297⟩ (fun hHeld => ?_)
                            clear hK K
                            refine norm_ (a' := ?_) ?_ ?_
                            rotate_left
                            · show Act.put _ (some 86) _ = _
                              simp only [Act.put, List.setIfInBounds_toArray, List.set_cons_zero, List.set_cons_succ, i64_w, i32_w]
                              rfl
                            refine one_ (i := 3) (N := some 88) #[true, true, true, true, false, false, false, false, true, false, false] rfl rfl (one_of HT_.out (by kernel_rfl)) (by decide) (fun K hK => ?_)
                            refine goes_ Try.func37 (by kernel_rfl) rfl #[.agg #[.int .i64 a1_0, .string a1_1, .string a1_2, .string a1_3]] (by rfl) rfl rfl t2_ ?_
                            with_reducible refine (laws_toRaw.calls a1_0 a1_1 a1_2 a1_3 t339 t340 t341 t342 _ A126.out).mono ?_
                            rintro e w140 ⟨rfl, hb⟩
                            refine ⟨_, rfl, ?_⟩
                            replace HO_312000 := Aside0.mk (Kd.R_below t22_ hb)
                            replace HO_316000 := Aside0.mk (Kd.R_below t23_ hb)
                            replace HO_325000 := Aside0.mk (Kd.R_below t24_ hb)
                            replace HO338 := Aside0.mk (Kd.R_below t38_ hb)
                            replace BK296 := bkN BK296 hb
                            replace BK297 := bkN BK297 hb
                            replace BK311 := bkN BK311 hb
                            replace BK315 := bkN BK315 hb
                            replace BK324 := bkN BK324 hb
                            replace BK347 := bkN BK347 hb
                            replace HB := Aside0.mk (below_step t14_ hb)
                            (try clear hb)
                            (try clear hb2)
                            (try clear hk)
                            (try clear hi)
                            obtain ⟨Ao141, co141, eo141⟩ := Kd.R_slice HO338.out
                            (first | subst eo141 | (injection eo141 with f1_ f2_ f3_; have f4_ := f1_.symm; have f5_ := f3_.symm; clear f1_ f2_ f3_; subst f4_; subst f5_))
                            refine hK.out _ _ ⟨bc0 BK296, bc0 BK297, bc1 BK297, bc2 BK297, bc3 BK297⟩ (fun hHeld => ?_)
                            clear hK K
                            refine norm_ (a' := ?_) ?_ ?_
                            rotate_left
                            · show Act.put _ (some 88) _ = _
                              simp only [Act.put, List.setIfInBounds_toArray, List.set_cons_zero, List.set_cons_succ, i64_w, i32_w]
                              rfl
                            refine one_ (i := 4) (N := some 89) #[true, true, true, true, true, false, false, false, true, false, false] rfl rfl (one_of HT_.out (by kernel_rfl)) (by decide) (fun K hK => ?_)
                            refine goes_ Try.func38 (by kernel_rfl) rfl #[.agg #[.slice Ao141 t336.length co141], .agg #[.int .i64 t339, .string t340, .string t341, .string t342]] (by rfl) rfl rfl t2_ ?_
                            with_reducible refine (impl_PutRaw.calls kj85 _ _ t336 t339 t340 t341 t342 t343 t346 _ ?side1 ?side2 A127.out).mono ?_
                            (case side1 => repeat (first | exact (Kd.R_reads' HO338.out).2.2 | (with_reducible refine Kd.C_alloc ?_ _) | (with_reducible refine Kd.C_drewN ?_ _) | (with_reducible refine Kd.C_drew ?_)))
                            (case side2 => exact (Kd.R_reads' HO338.out).2.1)
                            rintro e w142 ⟨v344, rfl, ho0, hb⟩
                            refine ⟨_, rfl, ?_⟩
                            have HO345 := Aside0.mk (Kd.R_lower (Kd.R_new' (Kd.R_new' (Kd.R_new' (Kd.R_new' ho0 (Kd.R_lt t22_)) (Kd.R_lt t23_)) (Kd.R_lt t24_)) (Kd.R_lt t38_)) (below_size t14_))
                            replace HO_312000 := Aside0.mk (Kd.R_elder' t22_ (Kd.R_base ho0) hb)
                            replace HO_316000 := Aside0.mk (Kd.R_elder' t23_ (Kd.R_base ho0) hb)
                            replace HO_325000 := Aside0.mk (Kd.R_elder' t24_ (Kd.R_base ho0) hb)
                            replace HO338 := Aside0.mk (Kd.R_elder' t38_ (Kd.R_base ho0) hb)
                            replace BK296 := bkN BK296 hb
                            replace BK297 := bkN BK297 hb
                            replace BK311 := bkN BK311 hb
                            replace BK315 := bkN BK315 hb
                            replace BK324 := bkN BK324 hb
                            replace BK347 := bkN BK347 hb
                            replace HB := Aside0.mk (below_step t14_ hb)
                            (try clear hb)
                            (try clear hb2)
                            (try clear hk)
                            (try clear hi)
                            (try clear ho0)
                            refine hK.out _ _ ⟨bc0 BK296, bc0 BK297, bc1 BK297, bc2 BK297, bc3 BK297⟩ (fun hHeld => ?_)
                            clear hK K
                            refine norm_ (a' := ?_) ?_ ?_
                            rotate_left
                            · show Act.put _ (some 89) _ = _
                              simp only [Act.put, List.setIfInBounds_toArray, List.set_cons_zero, List.set_cons_succ, i64_w, i32_w]
                              rfl
                            refine pure_ (i := 5) (N := some 84) (v := ?_) (a' := ?_) #[true, true, true, true, true, true, false, false, true, false, false] rfl rfl (any_of HT_.out (by kernel_rfl)) (fun _ _ _ h => h) (Or.inl ⟨by rfl, ?_⟩) ?_ ?_
                            rotate_left
                            · intro w'
                              go_simp
                              with_reducible rfl
                            rotate_left
                            · simp only [Act.put, List.setIfInBounds_toArray, List.set_cons_zero, List.set_cons_succ, i64_w, i32_w]
                              rfl
                            refine pure_ (i := 6) (N := some 90) (v := ?_) (a' := ?_) #[true, true, true, true, true, true, true, false, true, false, false] rfl rfl (any_of HT_.out (by kernel_rfl)) (fun _ _ _ h => h) (Or.inl ⟨by rfl, ?_⟩) ?_ ?_
                            rotate_left
                            · intro w'
                              go_simp
                              with_reducible rfl
                            rotate_left
                            · simp only [Act.put, List.setIfInBounds_toArray, List.set_cons_zero, List.set_cons_succ, i64_w, i32_w]
                              rfl
                            refine pure_ (i := 7) (N := some 91) (v := ?_) (a' := ?_) #[true, true, true, true, true, true, true, true, true, false, false] rfl rfl (any_of HT_.out (by kernel_rfl)) (fun _ _ _ h => h) (Or.inl ⟨by rfl, ?_⟩) ?_ ?_
                            rotate_left
                            · intro w'
                              go_simp
                              with_reducible rfl
                            rotate_left
                            · simp only [Act.put, List.setIfInBounds_toArray, List.set_cons_zero, List.set_cons_succ, i64_w, i32_w]
                              rfl
                            exact norm_ t53_ (hCont (.slice Ao141 t336.length co141, v344, gb347) _ ⟨hHeld, (by (with_reducible repeat (first | apply Kd.R_alloc | apply Kd.R_drewN | apply Kd.R_drew)); exact Kd.R_mono HO338.out (fun _ hk => ⟨hk.2, ⟨hk.1.1.1.2, ⟨hk.1.1.2, hk.1.2⟩⟩⟩)), (by (with_reducible repeat (first | apply Kd.R_alloc | apply Kd.R_drewN | apply Kd.R_drew)); exact Kd.R_mono HO345.out (fun _ hk => ⟨hk.2, ⟨hk.1.1.1.2, ⟨hk.1.1.2, hk.1.2⟩⟩⟩)), (by (with_reducible repeat (first | apply Kd.R_alloc | apply Kd.R_drewN | apply Kd.R_drew)); exact Kd.R_mono HO_312000.out (fun _ hk => ⟨hk.1.2, ⟨hk.2, ⟨hk.1.1.1, hk.1.1.2⟩⟩⟩)), (by (with_reducible repeat (first | apply Kd.R_alloc | apply Kd.R_drewN | apply Kd.R_drew)); exact Kd.R_mono HO_316000.out (fun _ hk => ⟨hk.1.2, ⟨hk.2, ⟨hk.1.1.1, hk.1.1.2⟩⟩⟩)), (by (with_reducible repeat (first | apply Kd.R_alloc | apply Kd.R_drewN | apply Kd.R_drew)); exact Kd.R_mono HO_325000.out (fun _ hk => ⟨hk.1.2, ⟨hk.2, ⟨hk.1.1.1, hk.1.1.2⟩⟩⟩)), t34_, t35_, t36_, t51_, t52_, t69_, GW347.out, GE347.out, NB296_347.out, NB347_296.out, NB297_347.out, NB347_297.out, NB311_347.out, NB347_311.out, NB315_347.out, NB347_315.out, NB324_347.out, NB347_324.out, t14_⟩)
                        rintro ⟨v337, v344, gb347⟩ w143 ⟨hS_, h0_, h1_, h2_, h3_, h4_, h5_, h6_, h7_, h8_, h9_, h10_, h11_, h12_, h13_, h14_, h15_, h16_, h17_, h18_, h19_, h20_, h21_, h22_, h23_⟩
                        have n0_ : Aside0 (Kd.R k71 71 w143 w.heap.size (fun k_ => some k_ ≠ (v344 : Value).ownBlock ∧ some k_ ≠ (.slice Ao40 t307.length co40 : Value).ownBlock ∧ some k_ ≠ (.slice Ao46 t331.length co46 : Value).ownBlock ∧ some k_ ≠ (.slice Ao57 t320.length co57 : Value).ownBlock) v337 t336) := ⟨h0_⟩
                        have n1_ : Aside0 (Kd.R k71 71 w143 w.heap.size (fun k_ => some k_ ≠ (v337 : Value).ownBlock ∧ some k_ ≠ (.slice Ao40 t307.length co40 : Value).ownBlock ∧ some k_ ≠ (.slice Ao46 t331.length co46 : Value).ownBlock ∧ some k_ ≠ (.slice Ao57 t320.length co57 : Value).ownBlock) v344 t343) := ⟨h1_⟩
                        have n2_ : Aside0 (Kd.R k71 71 w143 w.heap.size (fun k_ => some k_ ≠ (v337 : Value).ownBlock ∧ some k_ ≠ (v344 : Value).ownBlock ∧ some k_ ≠ (.slice Ao46 t331.length co46 : Value).ownBlock ∧ some k_ ≠ (.slice Ao57 t320.length co57 : Value).ownBlock) (.slice Ao40 t307.length co40) t307) := ⟨h2_⟩
                        have n3_ : Aside0 (Kd.R k71 71 w143 w.heap.size (fun k_ => some k_ ≠ (v337 : Value).ownBlock ∧ some k_ ≠ (v344 : Value).ownBlock ∧ some k_ ≠ (.slice Ao40 t307.length co40 : Value).ownBlock ∧ some k_ ≠ (.slice Ao57 t320.length co57 : Value).ownBlock) (.slice Ao46 t331.length co46) t331) := ⟨h3_⟩
                        have n4_ : Aside0 (Kd.R k71 71 w143 w.heap.size (fun k_ => some k_ ≠ (v337 : Value).ownBlock ∧ some k_ ≠ (v344 : Value).ownBlock ∧ some k_ ≠ (.slice Ao40 t307.length co40 : Value).ownBlock ∧ some k_ ≠ (.slice Ao46 t331.length co46 : Value).ownBlock) (.slice Ao57 t320.length co57) t334) := ⟨h4_⟩
                        have n5_ : Aside0 (w143.heap[gb296]? = some (.cells #[.slice A0_0 l0_0.length c0_0] 24 (0, 0))) := ⟨h5_⟩
                        have n6_ : Aside0 (w143.heap[gb297]? = some (.cells #[.int .i64 a1_0, .string a1_1, .string a1_2, .string a1_3] 73 (0, 0))) := ⟨h6_⟩
                        have n7_ : Aside0 (w143.heap[gb311]? = some (.cells #[.slice Ao40 t307.length co40] 30 (0, 0))) := ⟨h7_⟩
                        have n8_ : Aside0 (w143.heap[gb315]? = some (.cells #[.slice Ao46 t331.length co46] 30 (0, 0))) := ⟨h8_⟩
                        have n9_ : Aside0 (w143.heap[gb324]? = some (.cells #[.slice Ao57 t320.length co57] 30 (0, 0))) := ⟨h9_⟩
                        have n10_ : Aside0 (w143.heap[gb347]? = some (.cells #[.slice none 0 0] 30 (0, 0))) := ⟨h10_⟩
                        have n11_ : Aside0 (w.heap.size ≤ gb347) := ⟨h11_⟩
                        have n12_ : Aside0 (w.heap.size ≤ gb347) := ⟨h12_⟩
                        have n13_ : Aside0 (gb296 ≠ gb347) := ⟨h13_⟩
                        have n14_ : Aside0 (gb347 ≠ gb296) := ⟨h14_⟩
                        have n15_ : Aside0 (gb297 ≠ gb347) := ⟨h15_⟩
                        have n16_ : Aside0 (gb347 ≠ gb297) := ⟨h16_⟩
                        have n17_ : Aside0 (gb311 ≠ gb347) := ⟨h17_⟩
                        have n18_ : Aside0 (gb347 ≠ gb311) := ⟨h18_⟩
                        have n19_ : Aside0 (gb315 ≠ gb347) := ⟨h19_⟩
                        have n20_ : Aside0 (gb347 ≠ gb315) := ⟨h20_⟩
                        have n21_ : Aside0 (gb324 ≠ gb347) := ⟨h21_⟩
                        have n22_ : Aside0 (gb347 ≠ gb324) := ⟨h22_⟩
                        have n23_ : Aside0 (Below w.heap.size w w143) := ⟨h23_⟩
                        clear HO_312000
                        clear HO_316000
                        clear HO_325000
                        clear BK296
                        clear BK297
                        clear BK311
                        clear BK315
                        clear BK324
                        clear HB
                        clear h0_ h1_ h2_ h3_ h4_ h5_ h6_ h7_ h8_ h9_ h10_ h11_ h12_ h13_ h14_ h15_ h16_ h17_ h18_ h19_ h20_ h21_ h22_ h23_
                        have HO338 := n0_
                        have HO345 := n1_
                        have HO_312000 := n2_
                        have HO_316000 := n3_
                        have HO_325000 := n4_
                        have BK296 := n5_
                        have BK297 := n6_
                        have BK311 := n7_
                        have BK315 := n8_
                        have BK324 := n9_
                        have BK347 := n10_
                        have GW347 := n11_
                        have GE347 := n12_
                        have NB296_347 := n13_
                        have NB347_296 := n14_
                        have NB297_347 := n15_
                        have NB347_297 := n16_
                        have NB311_347 := n17_
                        have NB347_311 := n18_
                        have NB315_347 := n19_
                        have NB347_315 := n20_
                        have NB324_347 := n21_
                        have NB347_324 := n22_
                        have HB := n23_
                        clear n0_ n1_ n2_ n3_ n4_ n5_ n6_ n7_ n8_ n9_ n10_ n11_ n12_ n13_ n14_ n15_ n16_ n17_ n18_ n19_ n20_ n21_ n22_ n23_
                        have hHeld : w143.cell? ⟨gb296, 0, none⟩ = some (.slice A0_0 l0_0.length c0_0) ∧ w143.cell? ⟨gb297, 0, none⟩ = some (.int .i64 a1_0) ∧ w143.cell? ⟨gb297, 1, none⟩ = some (.string a1_1) ∧ w143.cell? ⟨gb297, 2, none⟩ = some (.string a1_2) ∧ w143.cell? ⟨gb297, 3, none⟩ = some (.string a1_3) := hS_
                        obtain ⟨Ao144, co144, eo144⟩ := Kd.R_slice HO345.out
                        (first | subst eo144 | (injection eo144 with f1_ f2_ f3_; have f4_ := f1_.symm; have f5_ := f3_.symm; clear f1_ f2_ f3_; subst f4_; subst f5_))
                        refine norm_ (a' := ?_) ?_ ?_
                        rotate_left
                        · simp only [putAll, Act.put, List.setIfInBounds_toArray, List.set_cons_zero, List.set_cons_succ]
                          rfl
                        refine one_ (i := 9) (N := none) #[true, true, true, true, true, true, true, true, true, true, false] rfl rfl (one_of HT_.out (by kernel_rfl)) (by decide) (fun K hK => ?_)
                        have hs145 : w143.cell? ⟨gb347, 0, none⟩ = some (.slice none 0 0) := bc0 BK347
                        have hfs145 := bf BK347 0
                        have hns145_0 := NB296_347.out
                        have hns145_1 := NB297_347.out
                        have hns145_2 := NB311_347.out
                        have hns145_3 := NB315_347.out
                        have hns145_4 := NB324_347.out
                        have hms145_0 := NB347_296.out
                        have hms145_1 := NB347_297.out
                        have hms145_2 := NB347_311.out
                        have hms145_3 := NB347_315.out
                        have hms145_4 := NB347_324.out
                        refine skip_ (w1 := ?_) (by rfl) rfl ?_ ?_
                        rotate_left
                        · go_simp
                          rfl
                        refine hK.out _ _ ⟨((cell_far (p := ⟨gb347, _, none⟩) NB296_347.out _).trans (hHeld.1)), ((cell_far (p := ⟨gb347, _, none⟩) NB297_347.out _).trans (hHeld.2.1)), ((cell_far (p := ⟨gb347, _, none⟩) NB297_347.out _).trans (hHeld.2.2.1)), ((cell_far (p := ⟨gb347, _, none⟩) NB297_347.out _).trans (hHeld.2.2.2.1)), ((cell_far (p := ⟨gb347, _, none⟩) NB297_347.out _).trans (hHeld.2.2.2.2))⟩ (fun hHeld => ?_)
                        clear hK K
                        refine pure_ (i := 10) (N := some 15) (v := ?_) (a' := ?_) #[true, true, true, true, true, true, true, true, true, true, true] rfl rfl (any_of HT_.out (by kernel_rfl)) (fun _ _ _ h => h) (Or.inl ⟨by rfl, ?_⟩) ?_ ?_
                        rotate_left
                        · intro w'
                          go_simp
                          with_reducible rfl
                        rotate_left
                        · simp only [Act.put, List.setIfInBounds_toArray, List.set_cons_zero, List.set_cons_succ, i64_w, i32_w]
                          rfl
                        refine done_ (done_of HT_.out (by kernel_rfl)) ?_
                        go_upto_region 28 with (fail)
                        go_cut [100] (fun v100 wc => ∃ (kq : Nat) (x100_127 : Bool), v100 = .bool x100_127 ∧ Aside0 (laws_FnExactPutRaw.j2 kq t333 x100_127 t334 = some r) ∧ Aside0 (kq ≤ kj85) ∧ Aside0 (Kd.R k71 71 wc w.heap.size (fun k_ => some k_ ≠ ((.slice Ao46 t331.length co46) : Value).ownBlock ∧ some k_ ≠ ((.slice Ao57 t320.length co57) : Value).ownBlock ∧ some k_ ≠ ((.slice Ao144 t343.length co144) : Value).ownBlock) (.slice Ao40 t307.length co40) t307) ∧ Aside0 (Kd.R k71 71 wc w.heap.size (fun k_ => some k_ ≠ ((.slice Ao40 t307.length co40) : Value).ownBlock ∧ some k_ ≠ ((.slice Ao57 t320.length co57) : Value).ownBlock ∧ some k_ ≠ ((.slice Ao144 t343.length co144) : Value).ownBlock) (.slice Ao46 t331.length co46) t331) ∧ Aside0 (Kd.R k71 71 wc w.heap.size (fun k_ => some k_ ≠ ((.slice Ao40 t307.length co40) : Value).ownBlock ∧ some k_ ≠ ((.slice Ao46 t331.length co46) : Value).ownBlock ∧ some k_ ≠ ((.slice Ao144 t343.length co144) : Value).ownBlock) (.slice Ao57 t320.length co57) t334) ∧ Aside0 (Kd.R k71 71 wc w.heap.size (fun k_ => some k_ ≠ ((.slice Ao40 t307.length co40) : Value).ownBlock ∧ some k_ ≠ ((.slice Ao46 t331.length co46) : Value).ownBlock ∧ some k_ ≠ ((.slice Ao57 t320.length co57) : Value).ownBlock) (.slice Ao144 t343.length co144) t343) ∧ Aside0 (wc.heap[gb296]? = some (.cells #[(.slice A0_0 l0_0.length c0_0)] 24 (0, 0))) ∧ Aside0 (wc.heap[gb297]? = some (.cells #[.int .i64 a1_0, .string a1_1, .string a1_2, .string a1_3] 73 (0, 0))) ∧ Aside0 (wc.heap[gb311]? = some (.cells #[(.slice Ao40 t307.length co40)] 30 (0, 0))) ∧ Aside0 (wc.heap[gb315]? = some (.cells #[(.slice Ao46 t331.length co46)] 30 (0, 0))) ∧ Aside0 (wc.heap[gb324]? = some (.cells #[(.slice Ao57 t320.length co57)] 30 (0, 0))) ∧ Aside0 (wc.heap[gb347]? = some (.cells #[(.slice Ao144 t343.length co144)] 30 (0, 0))) ∧ Aside0 (Below w.heap.size w wc))
                        case first =>
                          have H := HC128.out
                          clear HC128
                          replace H := Option.bind_eq_some_iff.mp H
                          obtain ⟨t348, A1460, H⟩ := H
                          replace H : (if t348 = true then (laws_FnExactPutRaw.j2 kj85 t333 (t346 != t310) t334) else (laws_FnExactPutRaw.j2 kj85 t333 true t334)) = some r := H
                          have A146 := Aside0.mk A1460
                          clear A1460
                          by_cases c147 : t348 = true
                          · subst c147
                            have H1 : (laws_FnExactPutRaw.j2 kj85 t333 (t346 != t310) t334) = some r := by rw [if_pos rfl] at H; exact H
                            clear H
                            have H := H1
                            clear H1
                            have H' := Aside0.mk H
                            clear H
                            have hnb148 := NB347_296.out
                            have hnc148 := NB296_347.out
                            have hnb149 := NB347_297.out
                            have hnc149 := NB297_347.out
                            have hnb150 := NB347_311.out
                            have hnc150 := NB311_347.out
                            have hnb151 := NB347_315.out
                            have hnc151 := NB315_347.out
                            have hnb152 := NB347_324.out
                            have hnc152 := NB324_347.out
                            have hcz153_0 := bc0 BK347
                            have hfz153_0 := bf BK347 0
                            have hnb154 := NB311_296.out
                            have hnc154 := NB296_311.out
                            have hnb155 := NB311_297.out
                            have hnc155 := NB297_311.out
                            have hnb156 := NB311_315.out
                            have hnc156 := NB315_311.out
                            have hnb157 := NB311_324.out
                            have hnc157 := NB324_311.out
                            have hcz158_0 := bc0 BK311
                            have hfz158_0 := bf BK311 0
                            go_wp2_with (first | ((with_reducible refine gate_callee (f := 17) rfl ?_); refine goesL_ (some 94) rfl rfl Try.func17 (by kernel_rfl) rfl #[.agg #[.slice Ao144 t343.length co144], .agg #[.slice Ao40 t307.length co40]] rfl t2_ ?_; (with_reducible refine (laws_eqDisk.calls kj85 _ _ t343 _ _ t307 true _ ?side1 ?side2 ?side3 ?side4 A146.out).mono ?_); (case side1 => refine (Kd.R_reads' (e := 71) (base := w.heap.size) (ok := fun k_ => (some k_ ≠ (v337 : Value).ownBlock ∧ (some k_ ≠ (.slice Ao40 t307.length co40 : Value).ownBlock ∧ (some k_ ≠ (.slice Ao46 t331.length co46 : Value).ownBlock ∧ some k_ ≠ (.slice Ao57 t320.length co57 : Value).ownBlock)))) (n := t343.length) (c := co144) ?_).2.2; exact (by (with_reducible repeat (first | apply Kd.R_alloc | apply Kd.R_drewN | apply Kd.R_drew)); exact (Kd.R_mono (Kd.R_far (p := ⟨gb347, 0, none⟩) (Kd.R_types HO345.out BK347.out (by decide)) (fun _ hk => hk.2) (.slice Ao144 t343.length co144)) (fun _ h_ => h_.1)))); (case side2 => exact (Kd.R_reads' HO345.out).2.1); (case side3 => refine (Kd.R_reads' (e := 71) (base := w.heap.size) (ok := fun k_ => (some k_ ≠ (v337 : Value).ownBlock ∧ (some k_ ≠ (.slice Ao144 t343.length co144 : Value).ownBlock ∧ (some k_ ≠ (.slice Ao46 t331.length co46 : Value).ownBlock ∧ some k_ ≠ (.slice Ao57 t320.length co57 : Value).ownBlock)))) (n := t307.length) (c := co40) ?_).2.2; exact (by (with_reducible repeat (first | apply Kd.R_alloc | apply Kd.R_drewN | apply Kd.R_drew)); exact (Kd.R_mono (Kd.R_far (p := ⟨gb347, 0, none⟩) (Kd.R_types HO_312000.out BK347.out (by decide)) (fun _ hk => hk.2) (.slice Ao144 t343.length co144)) (fun _ h_ => h_.1)))); (case side4 => exact (Kd.R_reads' HO_312000.out).2.1); rintro e w159 ⟨rfl, hb⟩; refine ⟨_, rfl, ?_⟩; replace HO_312000 := Aside0.mk (Kd.R_below (by (with_reducible repeat (first | apply Kd.R_alloc | apply Kd.R_drewN | apply Kd.R_drew)); exact (Kd.R_mono (Kd.R_far (p := ⟨gb347, 0, none⟩) (Kd.R_types HO_312000.out BK347.out (by decide)) (fun _ hk => hk.2) (.slice Ao144 t343.length co144)) (fun _ h_ => h_.1))) hb); replace HO_316000 := Aside0.mk (Kd.R_below (by (with_reducible repeat (first | apply Kd.R_alloc | apply Kd.R_drewN | apply Kd.R_drew)); exact (Kd.R_mono (Kd.R_far (p := ⟨gb347, 0, none⟩) (Kd.R_types HO_316000.out BK347.out (by decide)) (fun _ hk => hk.2) (.slice Ao144 t343.length co144)) (fun _ h_ => h_.1))) hb); replace HO_325000 := Aside0.mk (Kd.R_below (by (with_reducible repeat (first | apply Kd.R_alloc | apply Kd.R_drewN | apply Kd.R_drew)); exact (Kd.R_mono (Kd.R_far (p := ⟨gb347, 0, none⟩) (Kd.R_types HO_325000.out BK347.out (by decide)) (fun _ hk => hk.2) (.slice Ao144 t343.length co144)) (fun _ h_ => h_.1))) hb); replace HO338 := Aside0.mk (Kd.R_below (by (with_reducible repeat (first | apply Kd.R_alloc | apply Kd.R_drewN | apply Kd.R_drew)); exact (Kd.R_mono (Kd.R_far (p := ⟨gb347, 0, none⟩) (Kd.R_types HO338.out BK347.out (by decide)) (fun _ hk => hk.2) (.slice Ao144 t343.length co144)) (fun _ h_ => h_.1))) hb); replace HO345 := Aside0.mk (Kd.R_below (by (with_reducible repeat (first | apply Kd.R_alloc | apply Kd.R_drewN | apply Kd.R_drew)); exact (Kd.R_mono (Kd.R_far (p := ⟨gb347, 0, none⟩) (Kd.R_types HO345.out BK347.out (by decide)) (fun _ hk => hk.2) (.slice Ao144 t343.length co144)) (fun _ h_ => h_.1))) hb); replace BK296 := bkF BK296 NB296_347 hb; replace BK297 := bkF BK297 NB297_347 hb; replace BK311 := bkF BK311 NB311_347 hb; replace BK315 := bkF BK315 NB315_347 hb; replace BK324 := bkF BK324 NB324_347 hb; replace BK347 := Aside0.mk (blk_below (g := gb347) (o := .cells #[.slice Ao144 t343.length co144] 30 (0, 0)) (by (with_reducible repeat (first | refine blk_drewN ?_ _ | refine blk_drew ?_ | refine blk_alloc ?_ _)); refine blk_put (cs := #[.slice none 0 0]) ?_ 0 _ rfl; (with_reducible repeat (first | refine blk_drewN ?_ _ | refine blk_drew ?_ | refine blk_alloc ?_ _)); exact BK347.out) hb); replace HB := Aside0.mk (below_step t14_ hb); (try clear hb); (try clear hb2); (try clear hk); (try clear hi)))
                            go_meet
                            case rel => exact ⟨_, ((t346 != t310)), t28_, H', ⟨by have := HJ24.out; have := HJ85.out; first | omega | exact Nat.le_refl _⟩, ⟨by (try simp only [hl316000_85]); (with_reducible repeat (first | apply Kd.R_alloc | apply Kd.R_drewN | apply Kd.R_drew)); exact Kd.R_mono HO_312000.out (fun _ hk => ⟨hk.2.2.1, ⟨hk.2.2.2, hk.2.1⟩⟩)⟩, ⟨by (try simp only [hl316000_85]); (with_reducible repeat (first | apply Kd.R_alloc | apply Kd.R_drewN | apply Kd.R_drew)); exact Kd.R_mono HO_316000.out (fun _ hk => ⟨hk.2.2.1, ⟨hk.2.2.2, hk.2.1⟩⟩)⟩, ⟨by (try simp only [hl316000_85]); (with_reducible repeat (first | apply Kd.R_alloc | apply Kd.R_drewN | apply Kd.R_drew)); exact Kd.R_mono HO_325000.out (fun _ hk => ⟨hk.2.2.1, ⟨hk.2.2.2, hk.2.1⟩⟩)⟩, ⟨by (try simp only [hl316000_85]); (with_reducible repeat (first | apply Kd.R_alloc | apply Kd.R_drewN | apply Kd.R_drew)); exact Kd.R_mono HO345.out (fun _ hk => ⟨hk.2.1, ⟨hk.2.2.1, hk.2.2.2⟩⟩)⟩, ⟨by (try simp only [hl316000_85]); (with_reducible repeat (first | refine blk_drewN ?_ _ | refine blk_drew ?_ | refine blk_alloc ?_ _)); exact BK296.out⟩, ⟨by (try simp only [hl316000_85]); (with_reducible repeat (first | refine blk_drewN ?_ _ | refine blk_drew ?_ | refine blk_alloc ?_ _)); exact BK297.out⟩, ⟨by (try simp only [hl316000_85]); (with_reducible repeat (first | refine blk_drewN ?_ _ | refine blk_drew ?_ | refine blk_alloc ?_ _)); exact BK311.out⟩, ⟨by (try simp only [hl316000_85]); (with_reducible repeat (first | refine blk_drewN ?_ _ | refine blk_drew ?_ | refine blk_alloc ?_ _)); exact BK315.out⟩, ⟨by (try simp only [hl316000_85]); (with_reducible repeat (first | refine blk_drewN ?_ _ | refine blk_drew ?_ | refine blk_alloc ?_ _)); exact BK324.out⟩, ⟨by (try simp only [hl316000_85]); (with_reducible repeat (first | refine blk_drewN ?_ _ | refine blk_drew ?_ | refine blk_alloc ?_ _)); exact BK347.out⟩, ⟨t14_⟩⟩
                          · replace c147 := Bool.eq_false_iff.mpr c147
                            subst c147
                            have H1 : (laws_FnExactPutRaw.j2 kj85 t333 true t334) = some r := by rw [if_neg (show ¬ (false = true) by decide)] at H; exact H
                            clear H
                            have H := H1
                            clear H1
                            have H' := Aside0.mk H
                            clear H
                            have hnb160 := NB347_296.out
                            have hnc160 := NB296_347.out
                            have hnb161 := NB347_297.out
                            have hnc161 := NB297_347.out
                            have hnb162 := NB347_311.out
                            have hnc162 := NB311_347.out
                            have hnb163 := NB347_315.out
                            have hnc163 := NB315_347.out
                            have hnb164 := NB347_324.out
                            have hnc164 := NB324_347.out
                            have hcz165_0 := bc0 BK347
                            have hfz165_0 := bf BK347 0
                            have hnb166 := NB311_296.out
                            have hnc166 := NB296_311.out
                            have hnb167 := NB311_297.out
                            have hnc167 := NB297_311.out
                            have hnb168 := NB311_315.out
                            have hnc168 := NB315_311.out
                            have hnb169 := NB311_324.out
                            have hnc169 := NB324_311.out
                            have hcz170_0 := bc0 BK311
                            have hfz170_0 := bf BK311 0
                            go_wp2_with (first | ((with_reducible refine gate_callee (f := 17) rfl ?_); refine goesL_ (some 94) rfl rfl Try.func17 (by kernel_rfl) rfl #[.agg #[.slice Ao144 t343.length co144], .agg #[.slice Ao40 t307.length co40]] rfl t2_ ?_; (with_reducible refine (laws_eqDisk.calls kj85 _ _ t343 _ _ t307 false _ ?side1 ?side2 ?side3 ?side4 A146.out).mono ?_); (case side1 => refine (Kd.R_reads' (e := 71) (base := w.heap.size) (ok := fun k_ => (some k_ ≠ (v337 : Value).ownBlock ∧ (some k_ ≠ (.slice Ao40 t307.length co40 : Value).ownBlock ∧ (some k_ ≠ (.slice Ao46 t331.length co46 : Value).ownBlock ∧ some k_ ≠ (.slice Ao57 t320.length co57 : Value).ownBlock)))) (n := t343.length) (c := co144) ?_).2.2; exact (by (with_reducible repeat (first | apply Kd.R_alloc | apply Kd.R_drewN | apply Kd.R_drew)); exact (Kd.R_mono (Kd.R_far (p := ⟨gb347, 0, none⟩) (Kd.R_types HO345.out BK347.out (by decide)) (fun _ hk => hk.2) (.slice Ao144 t343.length co144)) (fun _ h_ => h_.1)))); (case side2 => exact (Kd.R_reads' HO345.out).2.1); (case side3 => refine (Kd.R_reads' (e := 71) (base := w.heap.size) (ok := fun k_ => (some k_ ≠ (v337 : Value).ownBlock ∧ (some k_ ≠ (.slice Ao144 t343.length co144 : Value).ownBlock ∧ (some k_ ≠ (.slice Ao46 t331.length co46 : Value).ownBlock ∧ some k_ ≠ (.slice Ao57 t320.length co57 : Value).ownBlock)))) (n := t307.length) (c := co40) ?_).2.2; exact (by (with_reducible repeat (first | apply Kd.R_alloc | apply Kd.R_drewN | apply Kd.R_drew)); exact (Kd.R_mono (Kd.R_far (p := ⟨gb347, 0, none⟩) (Kd.R_types HO_312000.out BK347.out (by decide)) (fun _ hk => hk.2) (.slice Ao144 t343.length co144)) (fun _ h_ => h_.1)))); (case side4 => exact (Kd.R_reads' HO_312000.out).2.1); rintro e w171 ⟨rfl, hb⟩; refine ⟨_, rfl, ?_⟩; replace HO_312000 := Aside0.mk (Kd.R_below (by (with_reducible repeat (first | apply Kd.R_alloc | apply Kd.R_drewN | apply Kd.R_drew)); exact (Kd.R_mono (Kd.R_far (p := ⟨gb347, 0, none⟩) (Kd.R_types HO_312000.out BK347.out (by decide)) (fun _ hk => hk.2) (.slice Ao144 t343.length co144)) (fun _ h_ => h_.1))) hb); replace HO_316000 := Aside0.mk (Kd.R_below (by (with_reducible repeat (first | apply Kd.R_alloc | apply Kd.R_drewN | apply Kd.R_drew)); exact (Kd.R_mono (Kd.R_far (p := ⟨gb347, 0, none⟩) (Kd.R_types HO_316000.out BK347.out (by decide)) (fun _ hk => hk.2) (.slice Ao144 t343.length co144)) (fun _ h_ => h_.1))) hb); replace HO_325000 := Aside0.mk (Kd.R_below (by (with_reducible repeat (first | apply Kd.R_alloc | apply Kd.R_drewN | apply Kd.R_drew)); exact (Kd.R_mono (Kd.R_far (p := ⟨gb347, 0, none⟩) (Kd.R_types HO_325000.out BK347.out (by decide)) (fun _ hk => hk.2) (.slice Ao144 t343.length co144)) (fun _ h_ => h_.1))) hb); replace HO338 := Aside0.mk (Kd.R_below (by (with_reducible repeat (first | apply Kd.R_alloc | apply Kd.R_drewN | apply Kd.R_drew)); exact (Kd.R_mono (Kd.R_far (p := ⟨gb347, 0, none⟩) (Kd.R_types HO338.out BK347.out (by decide)) (fun _ hk => hk.2) (.slice Ao144 t343.length co144)) (fun _ h_ => h_.1))) hb); replace HO345 := Aside0.mk (Kd.R_below (by (with_reducible repeat (first | apply Kd.R_alloc | apply Kd.R_drewN | apply Kd.R_drew)); exact (Kd.R_mono (Kd.R_far (p := ⟨gb347, 0, none⟩) (Kd.R_types HO345.out BK347.out (by decide)) (fun _ hk => hk.2) (.slice Ao144 t343.length co144)) (fun _ h_ => h_.1))) hb); replace BK296 := bkF BK296 NB296_347 hb; replace BK297 := bkF BK297 NB297_347 hb; replace BK311 := bkF BK311 NB311_347 hb; replace BK315 := bkF BK315 NB315_347 hb; replace BK324 := bkF BK324 NB324_347 hb; replace BK347 := Aside0.mk (blk_below (g := gb347) (o := .cells #[.slice Ao144 t343.length co144] 30 (0, 0)) (by (with_reducible repeat (first | refine blk_drewN ?_ _ | refine blk_drew ?_ | refine blk_alloc ?_ _)); refine blk_put (cs := #[.slice none 0 0]) ?_ 0 _ rfl; (with_reducible repeat (first | refine blk_drewN ?_ _ | refine blk_drew ?_ | refine blk_alloc ?_ _)); exact BK347.out) hb); replace HB := Aside0.mk (below_step t14_ hb); (try clear hb); (try clear hb2); (try clear hk); (try clear hi)))
                            go_meet
                            case rel => exact ⟨_, (true), t28_, H', ⟨by have := HJ24.out; have := HJ85.out; first | omega | exact Nat.le_refl _⟩, ⟨by (try simp only [hl316000_85]); (with_reducible repeat (first | apply Kd.R_alloc | apply Kd.R_drewN | apply Kd.R_drew)); exact Kd.R_mono HO_312000.out (fun _ hk => ⟨hk.2.2.1, ⟨hk.2.2.2, hk.2.1⟩⟩)⟩, ⟨by (try simp only [hl316000_85]); (with_reducible repeat (first | apply Kd.R_alloc | apply Kd.R_drewN | apply Kd.R_drew)); exact Kd.R_mono HO_316000.out (fun _ hk => ⟨hk.2.2.1, ⟨hk.2.2.2, hk.2.1⟩⟩)⟩, ⟨by (try simp only [hl316000_85]); (with_reducible repeat (first | apply Kd.R_alloc | apply Kd.R_drewN | apply Kd.R_drew)); exact Kd.R_mono HO_325000.out (fun _ hk => ⟨hk.2.2.1, ⟨hk.2.2.2, hk.2.1⟩⟩)⟩, ⟨by (try simp only [hl316000_85]); (with_reducible repeat (first | apply Kd.R_alloc | apply Kd.R_drewN | apply Kd.R_drew)); exact Kd.R_mono HO345.out (fun _ hk => ⟨hk.2.1, ⟨hk.2.2.1, hk.2.2.2⟩⟩)⟩, ⟨by (try simp only [hl316000_85]); (with_reducible repeat (first | refine blk_drewN ?_ _ | refine blk_drew ?_ | refine blk_alloc ?_ _)); exact BK296.out⟩, ⟨by (try simp only [hl316000_85]); (with_reducible repeat (first | refine blk_drewN ?_ _ | refine blk_drew ?_ | refine blk_alloc ?_ _)); exact BK297.out⟩, ⟨by (try simp only [hl316000_85]); (with_reducible repeat (first | refine blk_drewN ?_ _ | refine blk_drew ?_ | refine blk_alloc ?_ _)); exact BK311.out⟩, ⟨by (try simp only [hl316000_85]); (with_reducible repeat (first | refine blk_drewN ?_ _ | refine blk_drew ?_ | refine blk_alloc ?_ _)); exact BK315.out⟩, ⟨by (try simp only [hl316000_85]); (with_reducible repeat (first | refine blk_drewN ?_ _ | refine blk_drew ?_ | refine blk_alloc ?_ _)); exact BK324.out⟩, ⟨by (try simp only [hl316000_85]); (with_reducible repeat (first | refine blk_drewN ?_ _ | refine blk_drew ?_ | refine blk_alloc ?_ _)); exact BK347.out⟩, ⟨t14_⟩⟩
                        case rest =>
                          clear HC128
                          try clear c1
                          try clear p2
                          try clear c3
                          try clear c14
                          try clear c15
                          try clear c16
                          try clear c17
                          try clear c37
                          try clear c38
                          try clear c147
                          try clear c148
                          try clear c149
                          try clear c150
                          try clear c151
                          try clear c152
                          try clear c154
                          try clear c155
                          try clear c156
                          try clear c157
                          try clear c160
                          try clear c161
                          try clear c162
                          try clear c163
                          try clear c164
                          try clear c166
                          try clear c167
                          try clear c168
                          try clear c169
                          try clear hcz153_0
                          try clear hcz158_0
                          try clear hcz165_0
                          try clear hcz170_0
                          try clear hfz153_0
                          try clear hfz158_0
                          try clear hfz165_0
                          try clear hfz170_0
                          obtain ⟨kq, x100_127, rfl, HA, HJ127, HO_312000, HO_316000, HO_325000, HO_348000, BK296, BK297, BK311, BK315, BK324, BK347, HB⟩ := hcut
                          have hl325000_127 := (Kd.R_reads' HO_325000.out).1
                          rw [hl325000_127] at HO_325000
                          (try simp only [hl325000_127])
                          (try simp only [hl325000_127] at BK296)
                          (try simp only [hl325000_127] at BK297)
                          (try simp only [hl325000_127] at BK311)
                          (try simp only [hl325000_127] at BK315)
                          (try simp only [hl325000_127] at BK324)
                          (try simp only [hl325000_127] at BK347)
                          (try simp only [hl325000_127] at HO_312000)
                          (try simp only [hl325000_127] at HO_316000)
                          (try simp only [hl325000_127] at HO_348000)
                          cases kq with
                          | zero => exact absurd HA.out (by simp [laws_FnExactPutRaw.j2])
                          | succ kj127 =>
                            have H := HA.out
                            clear HA
                            simp only [laws_FnExactPutRaw.j2] at H
                            by_cases c172 : x100_127 = true
                            · subst c172
                              have H1 : (none) = some r := by rw [if_pos rfl] at H; exact H
                              clear H
                              have H := H1
                              clear H1
                              exact absurd H (by simp)
                            · replace c172 := Bool.eq_false_iff.mpr c172
                              subst c172
                              have H1 : ((laws_heldDisk.f kj127 t334 1).bind fun t349 => (if t349 < 0 then (none) else (if t349 = t333 then (some true) else (none)))) = some r := by rw [if_neg (show ¬ (false = true) by decide)] at H; exact H
                              clear H
                              have H := H1
                              clear H1
                              replace H := Option.bind_eq_some_iff.mp H
                              obtain ⟨t349, A1730, H⟩ := H
                              replace H : (if t349 < 0 then (none) else (if t349 = t333 then (some true) else (none))) = some r := H
                              have A173 := Aside0.mk A1730
                              clear A1730
                              by_cases c174 : t349 < 0
                              · rw [if_pos c174] at H
                                exact absurd H (by simp)
                              · rw [if_neg c174] at H
                                have c174b0 : decide (t349 < 0) = false := decide_eq_false c174
                                clear c174
                                by_cases c175 : t349 = t333
                                · rw [if_pos c175] at H
                                  have c175b0 : (t349 == t333) = true := beq_iff_eq.mpr c175
                                  have c175b1 : (t349 != t333) = false := bne_eq_false_iff_eq.mpr c175
                                  clear c175
                                  obtain rfl := Option.some.inj H
                                  have hnb176 := NB324_296.out
                                  have hnc176 := NB296_324.out
                                  have hnb177 := NB324_297.out
                                  have hnc177 := NB297_324.out
                                  have hnb178 := NB324_311.out
                                  have hnc178 := NB311_324.out
                                  have hnb179 := NB324_315.out
                                  have hnc179 := NB315_324.out
                                  have hnb180 := NB324_347.out
                                  have hnc180 := NB347_324.out
                                  have hcz181_0 := bc0 BK324
                                  have hfz181_0 := bf BK324 0
                                  go_wp2_with (first | ((with_reducible refine gate_callee (f := 21) rfl ?_); refine goesL_ (some 103) rfl rfl Try.func21 (by kernel_rfl) rfl #[.agg #[.slice Ao57 t334.length co57], .int .i64 1] rfl t2_ ?_; (with_reducible refine (laws_heldDisk.calls kj127 _ _ t334 1 t349 _ ?side1 ?side2 A173.out).mono ?_); (case side1 => repeat (first | exact (Kd.R_reads' HO_325000.out).2.2 | (with_reducible refine Kd.C_alloc ?_ _) | (with_reducible refine Kd.C_drewN ?_ _) | (with_reducible refine Kd.C_drew ?_))); (case side2 => exact (Kd.R_reads' HO_325000.out).2.1); rintro e w182 ⟨rfl, hb⟩; refine ⟨_, rfl, ?_⟩; replace HO_312000 := Aside0.mk (Kd.R_below t22_ hb); replace HO_316000 := Aside0.mk (Kd.R_below t23_ hb); replace HO_325000 := Aside0.mk (Kd.R_below t24_ hb); replace HO_348000 := Aside0.mk (Kd.R_below (by (with_reducible repeat (first | apply Kd.R_alloc | apply Kd.R_drewN | apply Kd.R_drew)); exact HO_348000.out) hb); replace BK296 := bkN BK296 hb; replace BK297 := bkN BK297 hb; replace BK311 := bkN BK311 hb; replace BK315 := bkN BK315 hb; replace BK324 := bkN BK324 hb; replace BK347 := bkN BK347 hb; replace HB := Aside0.mk (below_step t14_ hb); (try clear hb); (try clear hb2); (try clear hk); (try clear hi)))
                                  go_ret
                                  exact ⟨by first | rfl | (simp [errW_none, errW_some] <;> rfl) | (simp [*, errW_none, errW_some] <;> rfl), t14_⟩
                                · rw [if_neg c175] at H
                                  exact absurd H (by simp)
                      · rw [if_neg c124] at H
                        exact absurd H (by simp)
            · replace c84 := Bool.eq_false_iff.mpr c84
              subst c84
              have H1 : (none) = some r := by rw [if_neg (show ¬ (false = true) by decide)] at H; exact H
              clear H
              have H := H1
              clear H1
              exact absurd H (by simp)

end Go.Proofs.Ytpjhbhjmaggheaa.QFnExactPutRaw
