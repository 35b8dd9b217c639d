-- By a program of this session, over the kit's print.
import Derived.Test.YtpnncgfmihjlkaaQFnExactManifestTextx0
import Derived.Test.YtpnncgfmihjlkaaQFnExactManifestTextx1
import Derived.Test.YtpnncgfmihjlkaaQFnExactManifestTextx2
import Derived.Test.YtpnncgfmihjlkaaQFnExactManifestTextx4
namespace Go.Proofs.Ytpnncgfmihjlkaa.QFnExactManifestText
open Go.RowKit Go.Proofs.YtpnncgfmihjlkaaW.PrintWords Go.Proofs.YtpnncgfmihjlkaaW.PrintLast Go.Proofs.YtpnncgfmihjlkaaW.PrintMore
attribute [local go_sem] max2_int min2_int max_two min_two max_three min_three max_four min_four   -- for this text's walks alone
set_option linter.unusedVariables false
set_option linter.unusedSimpArgs false

/-! ### laws_FnExactManifestText: function 4 -/
def laws_FnExactManifestText.j0 : Nat → Bool → List Int → Int → Int → Int → List Int → List Int → Int → Int → Int → List Int → Option (Bool)
 | 0, _, _, _, _, _, _, _, _, _, _, _ => none
 | k + 1, x34, x222000, x222001, x222002, x222003, x222004, x244000, x244001, x244002, x244003, x244004 => if x34 = true then (none) else ((laws_toManifest.f k x222000 x222001 x222002 x222003 x222004).bind fun bt246 => ((laws_eqManifest.f k x244000 x244001 x244002 x244003 x244004 bt246.1 bt246.2.1 bt246.2.2.1 bt246.2.2.2.1 bt246.2.2.2.2).bind fun t255 => (if t255 = true then (some true) else (none))))
def laws_FnExactManifestText.f (k : Nat) (l0_0 : List Int) (a0_1 : Int) (a0_2 : Int) (a0_3 : Int) (l0_4 : List Int) : Option (Bool) := (laws_szManifest.f l0_0 a0_1 a0_2 a0_3 l0_4 1048576).bind fun t222 => (if t222 < 0 then (some true) else ((laws_toManifest.f k l0_0 a0_1 a0_2 a0_3 l0_4).bind fun bt223 => ((spec_ManifestText.f k bt223.1 bt223.2.1 bt223.2.2.1 bt223.2.2.2.1 bt223.2.2.2.2).bind fun bt232 => ((laws_toManifest.f k l0_0 a0_1 a0_2 a0_3 l0_4).bind fun bt234 => ((impl_ManifestText.f k bt234.1 bt234.2.1 bt234.2.2.1 bt234.2.2.2.1 bt234.2.2.2.2).bind fun bt244 => (if bt244.1.toList = bt232.1.toList then (laws_FnExactManifestText.j0 k (bt244.2 != bt232.2) l0_0 a0_1 a0_2 a0_3 l0_4 bt234.1 bt234.2.1 bt234.2.2.1 bt234.2.2.2.1 bt234.2.2.2.2) else (laws_FnExactManifestText.j0 k true l0_0 a0_1 a0_2 a0_3 l0_4 bt234.1 bt234.2.1 bt234.2.2.1 bt234.2.2.2.1 bt234.2.2.2.2)))))))
theorem laws_FnExactManifestText.mono_l : ∀ k, (∀ y0 y1 y2 y3 y4 y5 y6 y7 y8 y9 y10, LeO (laws_FnExactManifestText.j0 k y0 y1 y2 y3 y4 y5 y6 y7 y8 y9 y10) (laws_FnExactManifestText.j0 (k + 1) y0 y1 y2 y3 y4 y5 y6 y7 y8 y9 y10))
 | 0 => fun _ _ _ _ _ _ _ _ _ _ _ r h => by simp [laws_FnExactManifestText.j0] at h
 | k + 1 => by
  have ih0 := laws_FnExactManifestText.mono_l k
  · intro y0 y1 y2 y3 y4 y5 y6 y7 y8 y9 y10
    unfold laws_FnExactManifestText.j0
    repeat' first
    | (with_reducible exact ih0 _ _ _ _ _ _ _ _ _ _ _)
    | (with_reducible exact impl_ManifestText.mono _ _ _ _ _ _)
    | (with_reducible exact laws_eqManifest.mono _ _ _ _ _ _ _ _ _ _ _)
    | (with_reducible exact laws_toManifest.mono _ _ _ _ _ _)
    | (with_reducible exact spec_ManifestText.mono _ _ _ _ _ _)
    | (with_reducible exact LeO.refl _)
    | (with_reducible exact LeO.none _)
    | (with_reducible refine LeO.ite ?_ ?_)
    | (with_reducible refine LeO.bind ?_ (fun _ => ?_))
    | exact ih0 _ _ _ _ _ _ _ _ _ _ _
    | exact impl_ManifestText.mono _ _ _ _ _ _
    | exact laws_eqManifest.mono _ _ _ _ _ _ _ _ _ _ _
    | exact laws_toManifest.mono _ _ _ _ _ _
    | exact spec_ManifestText.mono _ _ _ _ _ _
    | exact LeO.none _
    | refine LeO.ite ?_ ?_
    | refine LeO.bind ?_ (fun _ => ?_)
theorem laws_FnExactManifestText.mono : ∀ a0 a1 a2 a3 a4 k, LeO (laws_FnExactManifestText.f k a0 a1 a2 a3 a4) (laws_FnExactManifestText.f (k + 1) a0 a1 a2 a3 a4) := by
 intro a0 a1 a2 a3 a4 k; have ih0 := laws_FnExactManifestText.mono_l k
 unfold laws_FnExactManifestText.f
 repeat' first
  | (with_reducible exact ih0 _ _ _ _ _ _ _ _ _ _ _)
  | (with_reducible exact impl_ManifestText.mono _ _ _ _ _ _)
  | (with_reducible exact laws_eqManifest.mono _ _ _ _ _ _ _ _ _ _ _)
  | (with_reducible exact laws_toManifest.mono _ _ _ _ _ _)
  | (with_reducible exact spec_ManifestText.mono _ _ _ _ _ _)
  | (with_reducible exact LeO.refl _)
  | (with_reducible exact LeO.none _)
  | (with_reducible refine LeO.ite ?_ ?_)
  | (with_reducible refine LeO.bind ?_ (fun _ => ?_))
  | exact ih0 _ _ _ _ _ _ _ _ _ _ _
  | exact impl_ManifestText.mono _ _ _ _ _ _
  | exact laws_eqManifest.mono _ _ _ _ _ _ _ _ _ _ _
  | exact laws_toManifest.mono _ _ _ _ _ _
  | exact spec_ManifestText.mono _ _ _ _ _ _
  | exact LeO.none _
  | refine LeO.ite ?_ ?_
  | refine LeO.bind ?_ (fun _ => ?_)
set_option maxHeartbeats 8000000 in
set_option maxRecDepth 100000 in
theorem laws_FnExactManifestText.calls (k : Nat) (A0_0 : Option Addr) (c0_0 : Nat) (l0_0 : List Int) (a0_1 : Int) (a0_2 : Int) (a0_3 : Int) (A0_4 : Option Addr) (c0_4 : Nat) (l0_4 : List Int) (r : Bool) (w : World) (hr0_0 : Kd.C (Kd.int .i64) w A0_0 l0_0.length l0_0) (hc0_0 : l0_0.length ≤ c0_0) (hr0_4 : Kd.C (Kd.int .i64) w A0_4 l0_4.length l0_4) (hc0_4 : l0_4.length ≤ c0_4) (h : laws_FnExactManifestText.f k l0_0 a0_1 a0_2 a0_3 l0_4 = some r) :
 Calls Try.prog 4 #[.agg #[.slice A0_0 l0_0.length c0_0, .int .i64 a0_1, .int .i64 a0_2, .int .i64 a0_3, .slice A0_4 l0_4.length c0_4]] w fun e w' => e = .returned (.bool r) ∧ Below w.heap.size w w' := by
 have hu33 := Try.underlying33; have hu36 := Try.underlying36; have HR0_0 := Aside0.mk hr0_0; have HC0_0 := Aside0.mk hc0_0; clear hr0_0 hc0_0; have HR0_4 := Aside0.mk hr0_4; have HC0_4 := Aside0.mk hc0_4; clear hr0_4 hc0_4; have HB := Aside0.mk (Below.refl w.heap.size w); have H : ((laws_szManifest.f l0_0 a0_1 a0_2 a0_3 l0_4 1048576).bind fun t222 => (if t222 < 0 then (some true) else ((laws_toManifest.f k l0_0 a0_1 a0_2 a0_3 l0_4).bind fun bt223 => ((spec_ManifestText.f k bt223.1 bt223.2.1 bt223.2.2.1 bt223.2.2.2.1 bt223.2.2.2.2).bind fun bt232 => ((laws_toManifest.f k l0_0 a0_1 a0_2 a0_3 l0_4).bind fun bt234 => ((impl_ManifestText.f k bt234.1 bt234.2.1 bt234.2.2.1 bt234.2.2.2.1 bt234.2.2.2.2).bind fun bt244 => (if bt244.1.toList = bt232.1.toList then (laws_FnExactManifestText.j0 k (bt244.2 != bt232.2) l0_0 a0_1 a0_2 a0_3 l0_4 bt234.1 bt234.2.1 bt234.2.2.1 bt234.2.2.2.1 bt234.2.2.2.2) else (laws_FnExactManifestText.j0 k true l0_0 a0_1 a0_2 a0_3 l0_4 bt234.1 bt234.2.1 bt234.2.2.1 bt234.2.2.2.1 bt234.2.2.2.2)))))))) = some r := h; clear h; replace H := Option.bind_eq_some_iff.mp H; obtain ⟨t222, A20, H⟩ := H; replace H : (if t222 < 0 then (some true) else ((laws_toManifest.f k l0_0 a0_1 a0_2 a0_3 l0_4).bind fun bt223 => ((spec_ManifestText.f k bt223.1 bt223.2.1 bt223.2.2.1 bt223.2.2.2.1 bt223.2.2.2.2).bind fun bt232 => ((laws_toManifest.f k l0_0 a0_1 a0_2 a0_3 l0_4).bind fun bt234 => ((impl_ManifestText.f k bt234.1 bt234.2.1 bt234.2.2.1 bt234.2.2.2.1 bt234.2.2.2.2).bind fun bt244 => (if bt244.1.toList = bt232.1.toList then (laws_FnExactManifestText.j0 k (bt244.2 != bt232.2) l0_0 a0_1 a0_2 a0_3 l0_4 bt234.1 bt234.2.1 bt234.2.2.1 bt234.2.2.2.1 bt234.2.2.2.2) else (laws_FnExactManifestText.j0 k true l0_0 a0_1 a0_2 a0_3 l0_4 bt234.1 bt234.2.1 bt234.2.2.1 bt234.2.2.2.1 bt234.2.2.2.2))))))) = some r := H; have A2 := Aside0.mk A20; clear A20; by_cases c3 : t222 < 0
 · rw [if_pos c3] at H; have c3b0 : decide (t222 < 0) = true := decide_eq_true c3; clear c3; obtain rfl := Option.some.inj H; go_enter Try.func4, Try.ntmps4
   go_wp2_with (first | ((with_reducible refine gate_dst (N := 1) rfl ?_); refine boxE (N := 1) (cs := #[.slice A0_0 l0_0.length c0_0, .int .i64 a0_1, .int .i64 a0_2, .int .i64 a0_3, .slice A0_4 l0_4.length c0_4]) (t := 33) (h := ?_); intro gb221 hg w4 hbox hb; have BK221 := Aside0.mk (hbox); have GW221 := Aside0.mk ((t2_ : w.heap.size ≤ gb221)); have GE221 := GW221; replace HB := bS t0_ hb; clear hb hbox hg; have hcz5_0 := bc0 BK221; have hcz5_1 := bc1 BK221; have hcz5_2 := bc2 BK221; have hcz5_3 := bc3 BK221; have hcz5_4 := bc4 BK221; have hfz5_0 := bf BK221 0; have hfz5_1 := bf BK221 1; have hfz5_2 := bf BK221 2; have hfz5_3 := bf BK221 3; have hfz5_4 := bf BK221 4) | ((with_reducible refine gate_callee (f := 16) rfl ?_); refine goesL_ (some 11) rfl rfl Try.func16 (by kernel_rfl) rfl #[.agg #[.slice A0_0 l0_0.length c0_0, .int .i64 a0_1, .int .i64 a0_2, .int .i64 a0_3, .slice A0_4 l0_4.length c0_4], .int .i64 1048576] rfl t1_ ?_; (with_reducible refine (laws_szManifest.calls _ _ l0_0 a0_1 a0_2 a0_3 _ _ l0_4 1048576 t222 _ ?side1 ?side2 ?side3 ?side4 A2.out).mono ?_); (case side1 => exact cB HR0_0 HB); (case side2 => exact HC0_0.out); (case side3 => exact cB HR0_4 HB); (case side4 => exact HC0_4.out); rintro e w6 ⟨rfl, hb⟩; refine ⟨_, rfl, ?_⟩; replace BK221 := bkN BK221 hb; replace HB := bS t8_ hb; (try clear hb)))
   go_ret; exact ⟨by first | rfl | (simp [errW_none, errW_some] <;> rfl) | (simp [*, errW_none, errW_some] <;> rfl), t8_⟩
 · rw [if_neg c3] at H; have c3b0 : decide (t222 < 0) = false := decide_eq_false c3; clear c3; replace H := Option.bind_eq_some_iff.mp H; obtain ⟨⟨t223, t226, t227, t228, t229⟩, A70, H⟩ := H; replace H : ((spec_ManifestText.f k t223 t226 t227 t228 t229).bind fun bt232 => ((laws_toManifest.f k l0_0 a0_1 a0_2 a0_3 l0_4).bind fun bt234 => ((impl_ManifestText.f k bt234.1 bt234.2.1 bt234.2.2.1 bt234.2.2.2.1 bt234.2.2.2.2).bind fun bt244 => (if bt244.1.toList = bt232.1.toList then (laws_FnExactManifestText.j0 k (bt244.2 != bt232.2) l0_0 a0_1 a0_2 a0_3 l0_4 bt234.1 bt234.2.1 bt234.2.2.1 bt234.2.2.2.1 bt234.2.2.2.2) else (laws_FnExactManifestText.j0 k true l0_0 a0_1 a0_2 a0_3 l0_4 bt234.1 bt234.2.1 bt234.2.2.1 bt234.2.2.2.1 bt234.2.2.2.2))))) = some r := H; have A7 := Aside0.mk A70; clear A70; replace H := Option.bind_eq_some_iff.mp H; obtain ⟨⟨t232, t233⟩, A80, H⟩ := H; replace H : ((laws_toManifest.f k l0_0 a0_1 a0_2 a0_3 l0_4).bind fun bt234 => ((impl_ManifestText.f k bt234.1 bt234.2.1 bt234.2.2.1 bt234.2.2.2.1 bt234.2.2.2.2).bind fun bt244 => (if bt244.1.toList = t232.toList then (laws_FnExactManifestText.j0 k (bt244.2 != t233) l0_0 a0_1 a0_2 a0_3 l0_4 bt234.1 bt234.2.1 bt234.2.2.1 bt234.2.2.2.1 bt234.2.2.2.2) else (laws_FnExactManifestText.j0 k true l0_0 a0_1 a0_2 a0_3 l0_4 bt234.1 bt234.2.1 bt234.2.2.1 bt234.2.2.2.1 bt234.2.2.2.2)))) = some r := H; have A8 := Aside0.mk A80; clear A80; replace H := Option.bind_eq_some_iff.mp H; obtain ⟨⟨t234, t237, t238, t239, t240⟩, A90, H⟩ := H; replace H : ((impl_ManifestText.f k t234 t237 t238 t239 t240).bind fun bt244 => (if bt244.1.toList = t232.toList then (laws_FnExactManifestText.j0 k (bt244.2 != t233) l0_0 a0_1 a0_2 a0_3 l0_4 t234 t237 t238 t239 t240) else (laws_FnExactManifestText.j0 k true l0_0 a0_1 a0_2 a0_3 l0_4 t234 t237 t238 t239 t240))) = some r := H; have A9 := Aside0.mk A90; clear A90; replace H := Option.bind_eq_some_iff.mp H; obtain ⟨⟨t244, t245⟩, A100, H⟩ := H; replace H : (if t244.toList = t232.toList then (laws_FnExactManifestText.j0 k (t245 != t233) l0_0 a0_1 a0_2 a0_3 l0_4 t234 t237 t238 t239 t240) else (laws_FnExactManifestText.j0 k true l0_0 a0_1 a0_2 a0_3 l0_4 t234 t237 t238 t239 t240)) = some r := H; have A10 := Aside0.mk A100; clear A100; have HC11 := Aside0.mk H; clear H; go_enter Try.func4, Try.ntmps4
   go_upto_region 8 with (first | ((with_reducible refine gate_dst (N := 1) rfl ?_); refine boxE (N := 1) (cs := #[.slice A0_0 l0_0.length c0_0, .int .i64 a0_1, .int .i64 a0_2, .int .i64 a0_3, .slice A0_4 l0_4.length c0_4]) (t := 33) (h := ?_); intro gb221 hg w12 hbox hb; have BK221 := Aside0.mk (hbox); have GW221 := Aside0.mk ((t2_ : w.heap.size ≤ gb221)); have GE221 := GW221; replace HB := bS t0_ hb; clear hb hbox hg; have hcz13_0 := bc0 BK221; have hcz13_1 := bc1 BK221; have hcz13_2 := bc2 BK221; have hcz13_3 := bc3 BK221; have hcz13_4 := bc4 BK221; have hfz13_0 := bf BK221 0; have hfz13_1 := bf BK221 1; have hfz13_2 := bf BK221 2; have hfz13_3 := bf BK221 3; have hfz13_4 := bf BK221 4) | ((with_reducible refine gate_callee (f := 16) rfl ?_); refine goesL_ (some 11) rfl rfl Try.func16 (by kernel_rfl) rfl #[.agg #[.slice A0_0 l0_0.length c0_0, .int .i64 a0_1, .int .i64 a0_2, .int .i64 a0_3, .slice A0_4 l0_4.length c0_4], .int .i64 1048576] rfl t1_ ?_; (with_reducible refine (laws_szManifest.calls _ _ l0_0 a0_1 a0_2 a0_3 _ _ l0_4 1048576 t222 _ ?side1 ?side2 ?side3 ?side4 A2.out).mono ?_); (case side1 => exact cB HR0_0 HB); (case side2 => exact HC0_0.out); (case side3 => exact cB HR0_4 HB); (case side4 => exact HC0_4.out); rintro e w14 ⟨rfl, hb⟩; refine ⟨_, rfl, ?_⟩; replace BK221 := bkN BK221 hb; replace HB := bS t8_ hb; (try clear hb); have hcz15_0 := bc0 BK221; have hcz15_1 := bc1 BK221; have hcz15_2 := bc2 BK221; have hcz15_3 := bc3 BK221; have hcz15_4 := bc4 BK221; have hfz15_0 := bf BK221 0; have hfz15_1 := bf BK221 1; have hfz15_2 := bf BK221 2; have hfz15_3 := bf BK221 3; have hfz15_4 := bf BK221 4) | ((with_reducible refine gate_callee (f := 18) rfl ?_); refine goesL_ (some 16) rfl rfl Try.func18 (by kernel_rfl) rfl #[.agg #[.slice A0_0 l0_0.length c0_0, .int .i64 a0_1, .int .i64 a0_2, .int .i64 a0_3, .slice A0_4 l0_4.length c0_4]] rfl t1_ ?_; (with_reducible refine (laws_toManifest.calls k _ _ l0_0 a0_1 a0_2 a0_3 _ _ l0_4 t223 t226 t227 t228 t229 _ ?side1 ?side2 ?side3 ?side4 A7.out).mono ?_); (case side1 => exact cB HR0_0 HB); (case side2 => exact HC0_0.out); (case side3 => exact cB HR0_4 HB); (case side4 => exact HC0_4.out); rintro e w16 ⟨v224, v230, rfl, ho0, ho1, hb⟩; refine ⟨_, rfl, ?_⟩; have HO225 := Aside0.mk (Kd.R_lower ho0 (below_size t8_)); have HO231 := Aside0.mk (Kd.R_lower ho1 (below_size t8_)); replace BK221 := bkN BK221 hb; replace HB := bS t8_ hb; (try clear hb); (try clear ho0); (try clear ho1); obtain ⟨Ao17, co17, eo17⟩ := Kd.R_slice HO225.out; subst eo17; obtain ⟨Ao18, co18, eo18⟩ := Kd.R_slice HO231.out; subst eo18) | ((with_reducible refine gate_callee (f := 17) rfl ?_); refine goesL_ (some 17) rfl rfl Try.func17 (by kernel_rfl) rfl #[.agg #[.slice Ao17 t223.length co17, .int .i64 t226, .int .i64 t227, .int .i64 t228, .slice Ao18 t229.length co18]] rfl t1_ ?_; (with_reducible refine (spec_ManifestText.calls k _ _ t223 t226 t227 t228 _ _ t229 t232 t233 _ ?side1 ?side2 ?side3 ?side4 A8.out).mono ?_); (case side1 => repeat (first | exact (Kd.R_reads' HO225.out).2.2 | (with_reducible refine Kd.C_alloc ?_ _) | (with_reducible refine Kd.C_drewN ?_ _) | (with_reducible refine Kd.C_drew ?_))); (case side2 => exact (Kd.R_reads' HO225.out).2.1); (case side3 => repeat (first | exact (Kd.R_reads' HO231.out).2.2 | (with_reducible refine Kd.C_alloc ?_ _) | (with_reducible refine Kd.C_drewN ?_ _) | (with_reducible refine Kd.C_drew ?_))); (case side4 => exact (Kd.R_reads' HO231.out).2.1); rintro e w19 ⟨rfl, hb⟩; refine ⟨_, rfl, ?_⟩; replace HO225 := Aside0.mk (Kd.R_below t16_ hb); replace HO231 := Aside0.mk (Kd.R_below t17_ hb); replace BK221 := bkN BK221 hb; replace HB := bS t8_ hb; (try clear hb); have hcz20_0 := bc0 BK221; have hcz20_1 := bc1 BK221; have hcz20_2 := bc2 BK221; have hcz20_3 := bc3 BK221; have hcz20_4 := bc4 BK221; have hfz20_0 := bf BK221 0; have hfz20_1 := bf BK221 1; have hfz20_2 := bf BK221 2; have hfz20_3 := bf BK221 3; have hfz20_4 := bf BK221 4) | ((with_reducible refine gate_callee (f := 18) rfl ?_); refine goesL_ (some 21) rfl rfl Try.func18 (by kernel_rfl) rfl #[.agg #[.slice A0_0 l0_0.length c0_0, .int .i64 a0_1, .int .i64 a0_2, .int .i64 a0_3, .slice A0_4 l0_4.length c0_4]] rfl t1_ ?_; (with_reducible refine (laws_toManifest.calls k _ _ l0_0 a0_1 a0_2 a0_3 _ _ l0_4 t234 t237 t238 t239 t240 _ ?side1 ?side2 ?side3 ?side4 A9.out).mono ?_); (case side1 => exact cB HR0_0 HB); (case side2 => exact HC0_0.out); (case side3 => exact cB HR0_4 HB); (case side4 => exact HC0_4.out); rintro e w21 ⟨v235, v241, rfl, ho0, ho1, hb⟩; refine ⟨_, rfl, ?_⟩; have HO236 := Aside0.mk (Kd.R_lower (Kd.R_new' (Kd.R_new' ho0 (Kd.R_lt t16_)) (Kd.R_lt t17_)) (below_size t8_)); have HO242 := Aside0.mk (Kd.R_lower (Kd.R_new' (Kd.R_new' ho1 (Kd.R_lt t16_)) (Kd.R_lt t17_)) (below_size t8_)); replace HO225 := Aside0.mk (Kd.R_mono (Kd.R_told (Kd.R_told (Kd.R_old t16_ hb) (Kd.R_base ho0)) (Kd.R_base ho1)) (fun _ h_ => h_.1)); replace HO231 := Aside0.mk (Kd.R_mono (Kd.R_told (Kd.R_told (Kd.R_old t17_ hb) (Kd.R_base ho0)) (Kd.R_base ho1)) (fun _ h_ => h_.1)); replace BK221 := bkN BK221 hb; replace HB := bS t8_ hb; (try clear hb); (try clear ho0); (try clear ho1)) | ((with_reducible refine gate_dst (N := 6) rfl ?_); refine boxE (N := 6) (cs := #[.slice none 0 0, .int .i64 0, .int .i64 0, .int .i64 0, .slice none 0 0]) (t := 36) (h := ?_); intro gb243 hg w22 hbox hb; replace HO225 := Aside0.mk (Kd.R_below t16_ hb); replace HO231 := Aside0.mk (Kd.R_below t17_ hb); replace HO236 := Aside0.mk (Kd.R_below (zK HO236) hb); replace HO242 := Aside0.mk (Kd.R_below (zK HO242) hb); have BK243 := Aside0.mk (hbox); have GW243 := Aside0.mk ((by rw [hg]; exact (below_size t8_) : w.heap.size ≤ gb243)); have GE243 := Aside0.mk ((by rw [hg]; exact (below_size t8_) : w.heap.size ≤ gb243)); replace HB := bS t8_ hb; have NB221_243 := nbL BK221 hg; have NB243_221 := nbG BK221 hg; replace BK221 := bkN BK221 hb; clear hb hbox hg; obtain ⟨Ao23, co23, eo23⟩ := Kd.R_slice HO236.out; subst eo23; have hnb24 := NB243_221.out; have hnc24 := NB221_243.out; have hcz25_0 := bc0 BK243; have hcz25_1 := bc1 BK243; have hcz25_2 := bc2 BK243; have hcz25_3 := bc3 BK243; have hcz25_4 := bc4 BK243; have hfz25_0 := bf BK243 0; have hfz25_1 := bf BK243 1; have hfz25_2 := bf BK243 2; have hfz25_3 := bf BK243 3; have hfz25_4 := bf BK243 4; obtain ⟨Ao26, co26, eo26⟩ := Kd.R_slice HO242.out; subst eo26) | ((with_reducible refine gate_store (t := 36) (p := 6) rfl ?_); refine store_event (t := 36) (p := 6) (v := ?vo_w27) (w1 := (((((w22.setCell ⟨gb243, 0, none⟩ (.slice Ao23 t234.length co23)).setCell ⟨gb243, 1, none⟩ (.int .i64 t237)).setCell ⟨gb243, 2, none⟩ (.int .i64 t238)).setCell ⟨gb243, 3, none⟩ (.int .i64 t239)).setCell ⟨gb243, 4, none⟩ (.slice Ao26 t240.length co26))) ?hg ?ho ?hn ?hr ?_; (case ho => rfl); (case hg => rfl); (case hn => rfl); (case hr => first | (go_simp; done) | (go_simp; rfl)); intro w27 hw; have n0_ : Aside0 (Kd.R (Kd.int .i64) 3 w27 w.heap.size (fun k_ => some k_ ≠ (.slice Ao18 t229.length co18 : Value).ownBlock ∧ some k_ ≠ (.slice Ao23 t234.length co23 : Value).ownBlock ∧ some k_ ≠ (.slice Ao26 t240.length co26 : Value).ownBlock) (.slice Ao17 t223.length co17) t223) := ⟨(by rw [hw]; exact (by (with_reducible repeat (first | apply Kd.R_alloc | apply Kd.R_drewN | apply Kd.R_drew)); exact Kd.R_mono (Kd.R_far (p := ⟨gb243, 4, none⟩) (Kd.R_far (p := ⟨gb243, 3, none⟩) (Kd.R_far (p := ⟨gb243, 2, none⟩) (Kd.R_far (p := ⟨gb243, 1, none⟩) (Kd.R_far (p := ⟨gb243, 0, none⟩) (Kd.R_types HO225.out BK243.out (by decide)) (fun _ hk => hk.2) (.slice Ao23 t234.length co23)) (fun _ hk => hk.2) (.int .i64 t237)) (fun _ hk => hk.2) (.int .i64 t238)) (fun _ hk => hk.2) (.int .i64 t239)) (fun _ hk => hk.2) (.slice Ao26 t240.length co26)) (fun _ hk => ⟨hk.1.1.1, ⟨hk.1.1.2, hk.1.2⟩⟩)))⟩; have n1_ : Aside0 (Kd.R (Kd.int .i64) 3 w27 w.heap.size (fun k_ => some k_ ≠ (.slice Ao17 t223.length co17 : Value).ownBlock ∧ some k_ ≠ (.slice Ao23 t234.length co23 : Value).ownBlock ∧ some k_ ≠ (.slice Ao26 t240.length co26 : Value).ownBlock) (.slice Ao18 t229.length co18) t229) := ⟨(by rw [hw]; exact (by (with_reducible repeat (first | apply Kd.R_alloc | apply Kd.R_drewN | apply Kd.R_drew)); exact Kd.R_mono (Kd.R_far (p := ⟨gb243, 4, none⟩) (Kd.R_far (p := ⟨gb243, 3, none⟩) (Kd.R_far (p := ⟨gb243, 2, none⟩) (Kd.R_far (p := ⟨gb243, 1, none⟩) (Kd.R_far (p := ⟨gb243, 0, none⟩) (Kd.R_types HO231.out BK243.out (by decide)) (fun _ hk => hk.2) (.slice Ao23 t234.length co23)) (fun _ hk => hk.2) (.int .i64 t237)) (fun _ hk => hk.2) (.int .i64 t238)) (fun _ hk => hk.2) (.int .i64 t239)) (fun _ hk => hk.2) (.slice Ao26 t240.length co26)) (fun _ hk => ⟨hk.1.1.1, ⟨hk.1.1.2, hk.1.2⟩⟩)))⟩; have n2_ : Aside0 (Kd.R (Kd.int .i64) 3 w27 w.heap.size (fun k_ => some k_ ≠ (.slice Ao17 t223.length co17 : Value).ownBlock ∧ some k_ ≠ (.slice Ao18 t229.length co18 : Value).ownBlock ∧ some k_ ≠ (.slice Ao26 t240.length co26 : Value).ownBlock) (.slice Ao23 t234.length co23) t234) := ⟨(by rw [hw]; exact (by (with_reducible repeat (first | apply Kd.R_alloc | apply Kd.R_drewN | apply Kd.R_drew)); exact Kd.R_mono (Kd.R_far (p := ⟨gb243, 4, none⟩) (Kd.R_far (p := ⟨gb243, 3, none⟩) (Kd.R_far (p := ⟨gb243, 2, none⟩) (Kd.R_far (p := ⟨gb243, 1, none⟩) (Kd.R_far (p := ⟨gb243, 0, none⟩) (Kd.R_types HO236.out BK243.out (by decide)) (fun _ hk => hk.2) (.slice Ao23 t234.length co23)) (fun _ hk => hk.2) (.int .i64 t237)) (fun _ hk => hk.2) (.int .i64 t238)) (fun _ hk => hk.2) (.int .i64 t239)) (fun _ hk => hk.2) (.slice Ao26 t240.length co26)) (fun _ hk => ⟨hk.1.1.2, ⟨hk.1.2, hk.1.1.1⟩⟩)))⟩; have n3_ : Aside0 (Kd.R (Kd.int .i64) 3 w27 w.heap.size (fun k_ => some k_ ≠ (.slice Ao17 t223.length co17 : Value).ownBlock ∧ some k_ ≠ (.slice Ao18 t229.length co18 : Value).ownBlock ∧ some k_ ≠ (.slice Ao23 t234.length co23 : Value).ownBlock) (.slice Ao26 t240.length co26) t240) := ⟨(by rw [hw]; exact (by (with_reducible repeat (first | apply Kd.R_alloc | apply Kd.R_drewN | apply Kd.R_drew)); exact Kd.R_mono (Kd.R_far (p := ⟨gb243, 4, none⟩) (Kd.R_far (p := ⟨gb243, 3, none⟩) (Kd.R_far (p := ⟨gb243, 2, none⟩) (Kd.R_far (p := ⟨gb243, 1, none⟩) (Kd.R_far (p := ⟨gb243, 0, none⟩) (Kd.R_types HO242.out BK243.out (by decide)) (fun _ hk => hk.2) (.slice Ao23 t234.length co23)) (fun _ hk => hk.2) (.int .i64 t237)) (fun _ hk => hk.2) (.int .i64 t238)) (fun _ hk => hk.2) (.int .i64 t239)) (fun _ hk => hk.2) (.slice Ao26 t240.length co26)) (fun _ hk => ⟨hk.1.1.2, ⟨hk.1.2, hk.1.1.1⟩⟩)))⟩; have n4_ : Aside0 (w27.heap[gb221]? = some (.cells #[.slice A0_0 l0_0.length c0_0, .int .i64 a0_1, .int .i64 a0_2, .int .i64 a0_3, .slice A0_4 l0_4.length c0_4] 33 (0, 0))) := ⟨(by rw [hw]; exact (zF5 BK221 NB221_243 NB221_243 NB221_243 NB221_243 NB221_243))⟩; have n5_ : Aside0 (w27.heap[gb243]? = some (.cells #[.slice Ao23 t234.length co23, .int .i64 t237, .int .i64 t238, .int .i64 t239, .slice Ao26 t240.length co26] 36 (0, 0))) := ⟨(by rw [hw]; exact (by (with_reducible repeat (first | refine blk_drewN ?_ _ | refine blk_drew ?_ | refine blk_alloc ?_ _)); refine blk_put (cs := #[.slice Ao23 t234.length co23, .int .i64 t237, .int .i64 t238, .int .i64 t239, .slice none 0 0]) ?_ 4 _ rfl; (with_reducible repeat (first | refine blk_drewN ?_ _ | refine blk_drew ?_ | refine blk_alloc ?_ _)); refine blk_put (cs := #[.slice Ao23 t234.length co23, .int .i64 t237, .int .i64 t238, .int .i64 0, .slice none 0 0]) ?_ 3 _ rfl; (with_reducible repeat (first | refine blk_drewN ?_ _ | refine blk_drew ?_ | refine blk_alloc ?_ _)); refine blk_put (cs := #[.slice Ao23 t234.length co23, .int .i64 t237, .int .i64 0, .int .i64 0, .slice none 0 0]) ?_ 2 _ rfl; (with_reducible repeat (first | refine blk_drewN ?_ _ | refine blk_drew ?_ | refine blk_alloc ?_ _)); refine blk_put (cs := #[.slice Ao23 t234.length co23, .int .i64 0, .int .i64 0, .int .i64 0, .slice none 0 0]) ?_ 1 _ rfl; (with_reducible repeat (first | refine blk_drewN ?_ _ | refine blk_drew ?_ | refine blk_alloc ?_ _)); refine blk_put (cs := #[.slice none 0 0, .int .i64 0, .int .i64 0, .int .i64 0, .slice none 0 0]) ?_ 0 _ rfl; (with_reducible repeat (first | refine blk_drewN ?_ _ | refine blk_drew ?_ | refine blk_alloc ?_ _)); exact BK243.out))⟩; have n6_ : Aside0 (Below w.heap.size w w27) := ⟨(by rw [hw]; exact t11_)⟩; clear hw; clear HO225; clear HO231; clear HO236; clear HO242; clear BK221; clear BK243; clear HB; have HO225 := n0_; have HO231 := n1_; have HO236 := n2_; have HO242 := n3_; have BK221 := n4_; have BK243 := n5_; have HB := n6_; clear n0_ n1_ n2_ n3_ n4_ n5_ n6_; have hcz28_0 := bc0 BK243; have hcz28_1 := bc1 BK243; have hcz28_2 := bc2 BK243; have hcz28_3 := bc3 BK243; have hcz28_4 := bc4 BK243; have hfz28_0 := bf BK243 0; have hfz28_1 := bf BK243 1; have hfz28_2 := bf BK243 2; have hfz28_3 := bf BK243 3; have hfz28_4 := bf BK243 4) | ((with_reducible refine gate_callee (f := 19) rfl ?_); refine goesL_ (some 24) rfl rfl Try.func19 (by kernel_rfl) rfl #[.agg #[.slice Ao23 t234.length co23, .int .i64 t237, .int .i64 t238, .int .i64 t239, .slice Ao26 t240.length co26]] rfl t1_ ?_; (with_reducible refine (impl_ManifestText.calls k (fun k_ => some k_ = (.slice Ao23 t234.length co23 : Value).ownBlock) _ _ t234 t237 t238 t239 (fun k_ => some k_ = (.slice Ao26 t240.length co26 : Value).ownBlock) _ _ t240 t244 t245 _ ?side1 ?side2 A10.out).mono ?_); (case side1 => exact Kd.R_V (Kd.R_tight rfl (Kd.R_types (Kd.R_types (HO236.out) BK221.out (by decide)) BK243.out (by decide)))); (case side2 => exact Kd.R_V (Kd.R_tight rfl (Kd.R_types (Kd.R_types (HO242.out) BK221.out (by decide)) BK243.out (by decide)))); rintro e w29 ⟨rfl, hb⟩; refine ⟨_, rfl, ?_⟩; replace HO225 := Aside0.mk (Kd.R_below t16_ hb); replace HO231 := Aside0.mk (Kd.R_below t17_ hb); replace HO236 := Aside0.mk (Kd.R_below (zK HO236) hb); replace HO242 := Aside0.mk (Kd.R_below (zK HO242) hb); replace BK221 := bkN BK221 hb; replace BK243 := bkN BK243 hb; replace HB := bS t11_ hb; (try clear hb)))
   (try simp only [Act.put, List.setIfInBounds_toArray, List.set_cons_zero, List.set_cons_succ])
   go_cut [34] (fun v34 wc => ∃ (kq : Nat) (x34_10 : Bool), v34 = .bool x34_10 ∧ Aside0 (laws_FnExactManifestText.j0 kq x34_10 l0_0 a0_1 a0_2 a0_3 l0_4 t234 t237 t238 t239 t240 = some r) ∧ Aside0 (kq ≤ k) ∧ Aside0 (Kd.R (Kd.int .i64) 3 wc w.heap.size (fun k_ => some k_ ≠ ((.slice Ao26 t240.length co26) : Value).ownBlock) (.slice Ao23 t234.length co23) t234) ∧ Aside0 (Kd.R (Kd.int .i64) 3 wc w.heap.size (fun k_ => some k_ ≠ ((.slice Ao23 t234.length co23) : Value).ownBlock) (.slice Ao26 t240.length co26) t240) ∧ Aside0 (wc.heap[gb221]? = some (.cells #[(.slice A0_0 l0_0.length c0_0), .int .i64 a0_1, .int .i64 a0_2, .int .i64 a0_3, (.slice A0_4 l0_4.length c0_4)] 33 (0, 0))) ∧ Aside0 (wc.heap[gb243]? = some (.cells #[(.slice Ao23 t234.length co23), .int .i64 t237, .int .i64 t238, .int .i64 t239, (.slice Ao26 t240.length co26)] 36 (0, 0))) ∧ Aside0 (Below w.heap.size w wc))
   case first =>
    have H := HC11.out; clear HC11; by_cases c30 : t244.toList = t232.toList
    · rw [if_pos c30] at H; have c30b0 : (t244.toList == t232.toList) = true := beq_iff_eq.mpr c30; have c30b1 : (t244.toList != t232.toList) = false := bne_eq_false_iff_eq.mpr c30; clear c30
      (first | rw [c30b0] | (simp only [i64_w, i32_w]; rw [c30b0]) | skip)
      have H' := Aside0.mk H; clear H; go_wp2; go_meet
      case rel => exact ⟨_, ((t245 != t233)), t6_, H', ⟨by first | omega | exact Nat.le_refl _⟩, ⟨by (with_reducible repeat (first | apply Kd.R_alloc | apply Kd.R_drewN | apply Kd.R_drew)); exact Kd.R_mono HO236.out (fun _ hk => hk.2.2)⟩, ⟨by (with_reducible repeat (first | apply Kd.R_alloc | apply Kd.R_drewN | apply Kd.R_drew)); exact Kd.R_mono HO242.out (fun _ hk => hk.2.2)⟩, ⟨zN BK221⟩, ⟨zN BK243⟩, ⟨t11_⟩⟩
    · rw [if_neg c30] at H; have c30b0 : (t244.toList == t232.toList) = false := beq_eq_false_iff_ne.mpr c30; have c30b1 : (t244.toList != t232.toList) = true := bne_iff_ne.mpr c30
      (first | rw [c30b0] | (simp only [i64_w, i32_w]; rw [c30b0]) | skip)
      have H' := Aside0.mk H; clear H; go_wp2; go_meet
      case rel => exact ⟨_, (true), t6_, H', ⟨by first | omega | exact Nat.le_refl _⟩, ⟨by (with_reducible repeat (first | apply Kd.R_alloc | apply Kd.R_drewN | apply Kd.R_drew)); exact Kd.R_mono HO236.out (fun _ hk => hk.2.2)⟩, ⟨by (with_reducible repeat (first | apply Kd.R_alloc | apply Kd.R_drewN | apply Kd.R_drew)); exact Kd.R_mono HO242.out (fun _ hk => hk.2.2)⟩, ⟨zN BK221⟩, ⟨zN BK243⟩, ⟨t11_⟩⟩
   case rest =>
    clear HC11
    try clear c1
    try clear c2
    try clear p2
    try clear c3
    try clear c3b0
    try clear c4
    try clear c16
    try clear c17
    try clear c18
    try clear c19
    try clear c24
    try clear c30
    try clear c30b0
    try clear c30b1
    try clear hcz13_0
    try clear hcz13_1
    try clear hcz13_2
    try clear hcz13_3
    try clear hcz13_4
    try clear hcz15_0
    try clear hcz15_1
    try clear hcz15_2
    try clear hcz15_3
    try clear hcz15_4
    try clear hcz20_0
    try clear hcz20_1
    try clear hcz20_2
    try clear hcz20_3
    try clear hcz20_4
    try clear hcz25_0
    try clear hcz25_1
    try clear hcz25_2
    try clear hcz25_3
    try clear hcz25_4
    try clear hcz28_0
    try clear hcz28_1
    try clear hcz28_2
    try clear hcz28_3
    try clear hcz28_4
    try clear hcz5_0
    try clear hcz5_1
    try clear hcz5_2
    try clear hcz5_3
    try clear hcz5_4
    try clear hfz13_0
    try clear hfz13_1
    try clear hfz13_2
    try clear hfz13_3
    try clear hfz13_4
    try clear hfz15_0
    try clear hfz15_1
    try clear hfz15_2
    try clear hfz15_3
    try clear hfz15_4
    try clear hfz20_0
    try clear hfz20_1
    try clear hfz20_2
    try clear hfz20_3
    try clear hfz20_4
    try clear hfz25_0
    try clear hfz25_1
    try clear hfz25_2
    try clear hfz25_3
    try clear hfz25_4
    try clear hfz28_0
    try clear hfz28_1
    try clear hfz28_2
    try clear hfz28_3
    try clear hfz28_4
    try clear hfz5_0
    try clear hfz5_1
    try clear hfz5_2
    try clear hfz5_3
    try clear hfz5_4
    obtain ⟨kq, x34_10, rfl, HA, HJ10, HO_244000, HO_244004, BK221, BK243, HB⟩ := hcut
    cases kq with
    | zero => exact absurd HA.out (by simp [laws_FnExactManifestText.j0])
    | succ kj10 =>
     have H := HA.out; clear HA; simp only [laws_FnExactManifestText.j0] at H; by_cases c31 : x34_10 = true
     · subst c31; have H1 : (none) = some r := by rw [if_pos rfl] at H; exact H
       clear H; have H := H1; clear H1; exact absurd H (by simp)
     · replace c31 := Bool.eq_false_iff.mpr c31; subst c31; have H1 : ((laws_toManifest.f kj10 l0_0 a0_1 a0_2 a0_3 l0_4).bind fun bt246 => ((laws_eqManifest.f kj10 t234 t237 t238 t239 t240 bt246.1 bt246.2.1 bt246.2.2.1 bt246.2.2.2.1 bt246.2.2.2.2).bind fun t255 => (if t255 = true then (some true) else (none)))) = some r := by rw [if_neg (show ¬ (false = true) by decide)] at H; exact H
       clear H; have H := H1; clear H1; replace H := Option.bind_eq_some_iff.mp H; obtain ⟨⟨t246, t249, t250, t251, t252⟩, A320, H⟩ := H; replace H : ((laws_eqManifest.f kj10 t234 t237 t238 t239 t240 t246 t249 t250 t251 t252).bind fun t255 => (if t255 = true then (some true) else (none))) = some r := H; have A32 := Aside0.mk A320; clear A320; replace H := Option.bind_eq_some_iff.mp H; obtain ⟨t255, A330, H⟩ := H; replace H : (if t255 = true then (some true) else (none)) = some r := H; have A33 := Aside0.mk A330; clear A330; by_cases c34 : t255 = true
       · subst c34; have H1 : (some true) = some r := by rw [if_pos rfl] at H; exact H
         clear H; have H := H1; clear H1; obtain rfl := Option.some.inj H
         try go_wp2
         replace HO_244000 := Aside0.mk (Kd.R_drew HO_244000.out); replace HO_244004 := Aside0.mk (Kd.R_drew HO_244004.out); replace BK221 := Aside0.mk (blk_drew BK221.out); replace BK243 := Aside0.mk (blk_drew BK243.out); replace HB := Aside0.mk (below_drew1 HB.out); refine start_ (n := 5) (S := fun w' => w'.cell? ⟨gb243, 0, none⟩ = some (.slice Ao23 t234.length co23) ∧ w'.cell? ⟨gb243, 1, none⟩ = some (.int .i64 t237) ∧ w'.cell? ⟨gb243, 2, none⟩ = some (.int .i64 t238) ∧ w'.cell? ⟨gb243, 3, none⟩ = some (.int .i64 t239) ∧ w'.cell? ⟨gb243, 4, none⟩ = some (.slice Ao26 t240.length co26) ∧ w'.cell? ⟨gb221, 0, none⟩ = some (.slice A0_0 l0_0.length c0_0) ∧ w'.cell? ⟨gb221, 1, none⟩ = some (.int .i64 a0_1) ∧ w'.cell? ⟨gb221, 2, none⟩ = some (.int .i64 a0_2) ∧ w'.cell? ⟨gb221, 3, none⟩ = some (.int .i64 a0_3) ∧ w'.cell? ⟨gb221, 4, none⟩ = some (.slice A0_4 l0_4.length c0_4)) (ds := []) #[false, false, false, false, false] (by kernel_rfl) rfl rfl ⟨bc0 BK243, bc1 BK243, bc2 BK243, bc3 BK243, bc4 BK243, bc0 BK221, bc1 BK221, bc2 BK221, bc3 BK221, bc4 BK221⟩ (fun hHeld => ?_)
         generalize wc.drew = w35 at HO_244000 HO_244004 BK221 BK243 HB hHeld ⊢; refine take_ (i := 0) (N := some 35) (v := ?_) (a' := ?_) #[true, false, false, false, false] rfl rfl (by kernel_rfl) (fun _ _ _ h => h) (Or.inl ⟨by rfl, ?_⟩) hHeld ?_ ?_
         rotate_left
         · rintro w' ⟨s0, s1, s2, s3, s4, s5, s6, s7, s8, s9⟩; go_simp; with_reducible rfl
         rotate_left
         · simp only [Act.put, ps1, ps2, ps3, i64_w, i32_w]; rfl
         refine take_ (i := 1) (N := some 36) (v := ?_) (a' := ?_) #[true, true, false, false, false] rfl rfl (by kernel_rfl) (fun _ _ _ h => h) (Or.inl ⟨by rfl, ?_⟩) hHeld ?_ ?_
         rotate_left
         · rintro w' ⟨s0, s1, s2, s3, s4, s5, s6, s7, s8, s9⟩; go_simp; with_reducible rfl
         rotate_left
         · simp only [Act.put, ps1, ps2, ps3, i64_w, i32_w]; rfl
         refine one_ (i := 2) (N := some 37) #[true, true, true, false, false] rfl rfl (by kernel_rfl) (by decide) (fun K hK => ?_)
         refine goes_ Try.func18 (by kernel_rfl) rfl #[.agg #[.slice A0_0 l0_0.length c0_0, .int .i64 a0_1, .int .i64 a0_2, .int .i64 a0_3, .slice A0_4 l0_4.length c0_4]] (by rfl) rfl rfl t1_ ?_
         with_reducible refine (laws_toManifest.calls kj10 _ _ l0_0 a0_1 a0_2 a0_3 _ _ l0_4 t246 t249 t250 t251 t252 _ ?side1 ?side2 ?side3 ?side4 A32.out).mono ?_
         (case side1 => exact cB HR0_0 HB)
         (case side2 => exact HC0_0.out)
         (case side3 => exact cB HR0_4 HB)
         (case side4 => exact HC0_4.out)
         rintro e w36 ⟨v247, v253, rfl, ho0, ho1, hb⟩; refine ⟨_, rfl, ?_⟩
         have HO248 := Aside0.mk (Kd.R_lower (Kd.R_new' (Kd.R_new' ho0 (Kd.R_lt t19_)) (Kd.R_lt t20_)) (below_size t11_)); have HO254 := Aside0.mk (Kd.R_lower (Kd.R_new' (Kd.R_new' ho1 (Kd.R_lt t19_)) (Kd.R_lt t20_)) (below_size t11_)); replace HO_244000 := Aside0.mk (Kd.R_mono (Kd.R_told (Kd.R_told (Kd.R_old t19_ hb) (Kd.R_base ho0)) (Kd.R_base ho1)) (fun _ h_ => h_.1)); replace HO_244004 := Aside0.mk (Kd.R_mono (Kd.R_told (Kd.R_told (Kd.R_old t20_ hb) (Kd.R_base ho0)) (Kd.R_base ho1)) (fun _ h_ => h_.1)); replace BK221 := bkN BK221 hb; replace BK243 := bkN BK243 hb; replace HB := bS t11_ hb
         (try clear hb)
         (try clear hb2)
         (try clear hk)
         (try clear hi)
         (try clear ho0)
         (try clear ho1)
         obtain ⟨Ao37, co37, eo37⟩ := Kd.R_slice HO248.out
         (first | subst eo37 | (injection eo37 with f1_ f2_ f3_; have f4_ := f1_.symm; have f5_ := f3_.symm; clear f1_ f2_ f3_; subst f4_; subst f5_))
         obtain ⟨Ao38, co38, eo38⟩ := Kd.R_slice HO254.out
         (first | subst eo38 | (injection eo38 with f1_ f2_ f3_; have f4_ := f1_.symm; have f5_ := f3_.symm; clear f1_ f2_ f3_; subst f4_; subst f5_))
         refine hK.out _ _ ⟨bc0 BK243, bc1 BK243, bc2 BK243, bc3 BK243, bc4 BK243, bc0 BK221, bc1 BK221, bc2 BK221, bc3 BK221, bc4 BK221⟩ (fun hHeld => ?_)
         clear hK K; refine norm_ (a' := ?_) ?_ ?_
         rotate_left
         · show Act.put _ (some 37) _ = _
           simp only [Act.put, ps1, ps2, ps3, i64_w, i32_w]; rfl
         refine one_ (i := 3) (N := some 38) #[true, true, true, true, false] rfl rfl (by kernel_rfl) (by decide) (fun K hK => ?_)
         refine goes_ Try.func20 (by kernel_rfl) rfl #[.agg #[.slice Ao23 t234.length co23, .int .i64 t237, .int .i64 t238, .int .i64 t239, .slice Ao26 t240.length co26], .agg #[.slice Ao37 t246.length co37, .int .i64 t249, .int .i64 t250, .int .i64 t251, .slice Ao38 t252.length co38]] (by rfl) rfl rfl t1_ ?_
         with_reducible refine (laws_eqManifest.calls kj10 _ _ t234 t237 t238 t239 _ _ t240 _ _ t246 t249 t250 t251 _ _ t252 true _ ?side1 ?side2 ?side3 ?side4 ?side5 ?side6 ?side7 ?side8 A33.out).mono ?_
         (case side1 => repeat (first | exact (Kd.R_reads' HO_244000.out).2.2 | (with_reducible refine Kd.C_alloc ?_ _) | (with_reducible refine Kd.C_drewN ?_ _) | (with_reducible refine Kd.C_drew ?_)))
         (case side2 => exact (Kd.R_reads' HO_244000.out).2.1)
         (case side3 => repeat (first | exact (Kd.R_reads' HO_244004.out).2.2 | (with_reducible refine Kd.C_alloc ?_ _) | (with_reducible refine Kd.C_drewN ?_ _) | (with_reducible refine Kd.C_drew ?_)))
         (case side4 => exact (Kd.R_reads' HO_244004.out).2.1)
         (case side5 => repeat (first | exact (Kd.R_reads' HO248.out).2.2 | (with_reducible refine Kd.C_alloc ?_ _) | (with_reducible refine Kd.C_drewN ?_ _) | (with_reducible refine Kd.C_drew ?_)))
         (case side6 => exact (Kd.R_reads' HO248.out).2.1)
         (case side7 => repeat (first | exact (Kd.R_reads' HO254.out).2.2 | (with_reducible refine Kd.C_alloc ?_ _) | (with_reducible refine Kd.C_drewN ?_ _) | (with_reducible refine Kd.C_drew ?_)))
         (case side8 => exact (Kd.R_reads' HO254.out).2.1)
         rintro e w39 ⟨rfl, hb⟩; refine ⟨_, rfl, ?_⟩
         replace HO_244000 := Aside0.mk (Kd.R_below t19_ hb); replace HO_244004 := Aside0.mk (Kd.R_below t20_ hb); replace HO248 := Aside0.mk (Kd.R_below (zK HO248) hb); replace HO254 := Aside0.mk (Kd.R_below (zK HO254) hb); replace BK221 := bkN BK221 hb; replace BK243 := bkN BK243 hb; replace HB := bS t11_ hb
         (try clear hb)
         (try clear hb2)
         (try clear hk)
         (try clear hi)
         refine hK.out _ _ ⟨bc0 BK243, bc1 BK243, bc2 BK243, bc3 BK243, bc4 BK243, bc0 BK221, bc1 BK221, bc2 BK221, bc3 BK221, bc4 BK221⟩ (fun hHeld => ?_)
         clear hK K; refine norm_ (a' := ?_) ?_ ?_
         rotate_left
         · show Act.put _ (some 38) _ = _
           simp only [Act.put, ps1, ps2, ps3, i64_w, i32_w]; rfl
         refine pure_ (i := 4) (N := some 39) (v := ?_) (a' := ?_) #[true, true, true, true, true] rfl rfl (by kernel_rfl) (fun _ _ _ h => h) (Or.inl ⟨by rfl, ?_⟩) ?_ ?_
         rotate_left
         · intro w'; go_simp; with_reducible rfl
         rotate_left
         · simp only [Act.put, ps1, ps2, ps3, i64_w, i32_w]; rfl
         refine done_ (by kernel_rfl) ?_
         try go_wp2
         go_ret; exact ⟨by first | rfl | (simp [errW_none, errW_some] <;> rfl) | (simp [*, errW_none, errW_some] <;> rfl), t11_⟩
       · replace c34 := Bool.eq_false_iff.mpr c34; subst c34; have H1 : (none) = some r := by rw [if_neg (show ¬ (false = true) by decide)] at H; exact H
         clear H; have H := H1; clear H1; exact absurd H (by simp)

end Go.Proofs.Ytpnncgfmihjlkaa.QFnExactManifestText
