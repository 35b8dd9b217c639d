-- By a program of this session, over the kit's print.
import Derived.Test.YtpnncgfmihjlkaaQFnExactReadBatchx0
import Derived.Test.YtpnncgfmihjlkaaQFnExactReadBatchx5
import Derived.Test.YtpnncgfmihjlkaaQFnExactReadBatchx10
import Derived.Test.YtpnncgfmihjlkaaQFnExactReadBatchx11
namespace Go.Proofs.Ytpnncgfmihjlkaa.QFnExactReadBatch
open Go.RowKit Go.Proofs.YtpnncgfmihjlkaaW.PrintWords Go.Proofs.YtpnncgfmihjlkaaW.PrintLast Go.Proofs.YtpnncgfmihjlkaaW.PrintMore
attribute [local go_sem] max2_int min2_int max_two min_two max_three min_three max_four min_four   -- for this text's walks alone
set_option linter.unusedVariables false
set_option linter.unusedSimpArgs false

/-! ### laws_FnExactReadBatch: function 8 -/
mutual
def laws_FnExactReadBatch.j0 : Nat → ByteArray → Bool → Bool → Int → List (S80) → Int → List (S80) → Option (Bool)
 | 0, _, _, _, _, _, _, _ => none
 | k + 1, x0, x4, x32, x254000, x254001, x260000, x260001 => if x32 = true then (none) else ((laws_markBatch.f k x260000 x260001 1).bind fun bt261 => ((laws_heldBatch.f k x260000 bt261.2 1).bind fun t263 => (if t263 < 0 then (none) else (if t263 = bt261.1 then ((impl_ReadBatch.f k x0).bind fun bt264 => ((laws_eqBatch.f k bt264.1 bt264.2.1 x254000 x254001).bind fun t270 => (if t270 = true then (laws_FnExactReadBatch.j1 k bt261.1 (bt264.2.2 != x4) x260000 bt261.2) else (laws_FnExactReadBatch.j1 k bt261.1 true x260000 bt261.2)))) else (none)))))
def laws_FnExactReadBatch.j1 : Nat → Int → Bool → Int → List (S80) → Option (Bool)
 | 0, _, _, _, _ => none
 | k + 1, x7, x57, x260000, x260001 => if x57 = true then (none) else ((laws_heldBatch.f k x260000 x260001 1).bind fun t271 => (if t271 < 0 then (none) else (if t271 = x7 then (some true) else (none))))
end
def laws_FnExactReadBatch.f (k : Nat) (a0 : ByteArray) : Option (Bool) := if (a0.size : Int) > 1048576 then (some true) else ((spec_ReadBatch.f k a0).bind fun bt248 => ((impl_ReadBatch.f k a0).bind fun bt254 => ((laws_eqBatch.f k bt254.1 bt254.2.1 bt248.1 bt248.2.1).bind fun t260 => (if t260 = true then (laws_FnExactReadBatch.j0 k a0 bt248.2.2 (bt254.2.2 != bt248.2.2) bt248.1 bt248.2.1 bt254.1 bt254.2.1) else (laws_FnExactReadBatch.j0 k a0 bt248.2.2 true bt248.1 bt248.2.1 bt254.1 bt254.2.1)))))
theorem laws_FnExactReadBatch.mono_l : ∀ k, (∀ y0 y1 y2 y3 y4 y5 y6, LeO (laws_FnExactReadBatch.j0 k y0 y1 y2 y3 y4 y5 y6) (laws_FnExactReadBatch.j0 (k + 1) y0 y1 y2 y3 y4 y5 y6)) ∧ (∀ y0 y1 y2 y3, LeO (laws_FnExactReadBatch.j1 k y0 y1 y2 y3) (laws_FnExactReadBatch.j1 (k + 1) y0 y1 y2 y3))
 | 0 => ⟨fun _ _ _ _ _ _ _ r h => by simp [laws_FnExactReadBatch.j0] at h, fun _ _ _ _ r h => by simp [laws_FnExactReadBatch.j1] at h⟩
 | k + 1 => by
  obtain ⟨ih0, ih1⟩ := laws_FnExactReadBatch.mono_l k; refine ⟨?_, ?_⟩
  · intro y0 y1 y2 y3 y4 y5 y6
    unfold laws_FnExactReadBatch.j0
    repeat' first
    | (with_reducible exact ih0 _ _ _ _ _ _ _)
    | (with_reducible exact ih1 _ _ _ _)
    | (with_reducible exact impl_ReadBatch.mono _ _)
    | (with_reducible exact laws_eqBatch.mono _ _ _ _ _)
    | (with_reducible exact laws_heldBatch.mono _ _ _ _)
    | (with_reducible exact laws_markBatch.mono _ _ _ _)
    | (with_reducible exact spec_ReadBatch.mono _ _)
    | (with_reducible exact LeO.refl _)
    | (with_reducible exact LeO.none _)
    | (with_reducible refine LeO.ite ?_ ?_)
    | (with_reducible refine LeO.bind ?_ (fun _ => ?_))
    | exact ih0 _ _ _ _ _ _ _
    | exact ih1 _ _ _ _
    | exact impl_ReadBatch.mono _ _
    | exact laws_eqBatch.mono _ _ _ _ _
    | exact laws_heldBatch.mono _ _ _ _
    | exact laws_markBatch.mono _ _ _ _
    | exact spec_ReadBatch.mono _ _
    | exact LeO.none _
    | refine LeO.ite ?_ ?_
    | refine LeO.bind ?_ (fun _ => ?_)
  · intro y0 y1 y2 y3
    unfold laws_FnExactReadBatch.j1
    repeat' first
    | (with_reducible exact ih0 _ _ _ _ _ _ _)
    | (with_reducible exact ih1 _ _ _ _)
    | (with_reducible exact impl_ReadBatch.mono _ _)
    | (with_reducible exact laws_eqBatch.mono _ _ _ _ _)
    | (with_reducible exact laws_heldBatch.mono _ _ _ _)
    | (with_reducible exact laws_markBatch.mono _ _ _ _)
    | (with_reducible exact spec_ReadBatch.mono _ _)
    | (with_reducible exact LeO.refl _)
    | (with_reducible exact LeO.none _)
    | (with_reducible refine LeO.ite ?_ ?_)
    | (with_reducible refine LeO.bind ?_ (fun _ => ?_))
    | exact ih0 _ _ _ _ _ _ _
    | exact ih1 _ _ _ _
    | exact impl_ReadBatch.mono _ _
    | exact laws_eqBatch.mono _ _ _ _ _
    | exact laws_heldBatch.mono _ _ _ _
    | exact laws_markBatch.mono _ _ _ _
    | exact spec_ReadBatch.mono _ _
    | exact LeO.none _
    | refine LeO.ite ?_ ?_
    | refine LeO.bind ?_ (fun _ => ?_)
theorem laws_FnExactReadBatch.mono : ∀ a0 k, LeO (laws_FnExactReadBatch.f k a0) (laws_FnExactReadBatch.f (k + 1) a0) := by
 intro a0 k; obtain ⟨ih0, ih1⟩ := laws_FnExactReadBatch.mono_l k
 unfold laws_FnExactReadBatch.f
 repeat' first
  | (with_reducible exact ih0 _ _ _ _ _ _ _)
  | (with_reducible exact ih1 _ _ _ _)
  | (with_reducible exact impl_ReadBatch.mono _ _)
  | (with_reducible exact laws_eqBatch.mono _ _ _ _ _)
  | (with_reducible exact laws_heldBatch.mono _ _ _ _)
  | (with_reducible exact laws_markBatch.mono _ _ _ _)
  | (with_reducible exact spec_ReadBatch.mono _ _)
  | (with_reducible exact LeO.refl _)
  | (with_reducible exact LeO.none _)
  | (with_reducible refine LeO.ite ?_ ?_)
  | (with_reducible refine LeO.bind ?_ (fun _ => ?_))
  | exact ih0 _ _ _ _ _ _ _
  | exact ih1 _ _ _ _
  | exact impl_ReadBatch.mono _ _
  | exact laws_eqBatch.mono _ _ _ _ _
  | exact laws_heldBatch.mono _ _ _ _
  | exact laws_markBatch.mono _ _ _ _
  | exact spec_ReadBatch.mono _ _
  | exact LeO.none _
  | refine LeO.ite ?_ ?_
  | refine LeO.bind ?_ (fun _ => ?_)
set_option maxHeartbeats 8000000 in
set_option maxRecDepth 100000 in
theorem laws_FnExactReadBatch.calls (k : Nat) (a0 : ByteArray) (r : Bool) (w : World) (h : laws_FnExactReadBatch.f k a0 = some r) :
 Calls Try.prog 8 #[.string a0] w fun e w' => e = .returned (.bool r) ∧ Below w.heap.size w w' := by
 have hu46 := Try.underlying46; have HB := Aside0.mk (Below.refl w.heap.size w); have H : (if (a0.size : Int) > 1048576 then (some true) else ((spec_ReadBatch.f k a0).bind fun bt248 => ((impl_ReadBatch.f k a0).bind fun bt254 => ((laws_eqBatch.f k bt254.1 bt254.2.1 bt248.1 bt248.2.1).bind fun t260 => (if t260 = true then (laws_FnExactReadBatch.j0 k a0 bt248.2.2 (bt254.2.2 != bt248.2.2) bt248.1 bt248.2.1 bt254.1 bt254.2.1) else (laws_FnExactReadBatch.j0 k a0 bt248.2.2 true bt248.1 bt248.2.1 bt254.1 bt254.2.1)))))) = some r := h; clear h; by_cases c2 : (a0.size : Int) > 1048576
 · rw [if_pos c2] at H; have c2b0 : decide (1048576 < (a0.size : Int)) = true := decide_eq_true c2; have c2b1 : decide (1048576 < a0.size) = true := decide_eq_true (by omega); clear c2; obtain rfl := Option.some.inj H; go_enter Try.func8, Try.ntmps8; go_wp2; go_ret; exact ⟨by first | rfl | (simp [errW_none, errW_some] <;> rfl) | (simp [*, errW_none, errW_some] <;> rfl), t0_⟩
 · rw [if_neg c2] at H; have c2b0 : decide (1048576 < (a0.size : Int)) = false := decide_eq_false c2; have c2b1 : decide (1048576 < a0.size) = false := decide_eq_false (by omega); clear c2; replace H := Option.bind_eq_some_iff.mp H; obtain ⟨⟨t248, t249, t252⟩, A30, H⟩ := H; replace H : ((impl_ReadBatch.f k a0).bind fun bt254 => ((laws_eqBatch.f k bt254.1 bt254.2.1 t248 t249).bind fun t260 => (if t260 = true then (laws_FnExactReadBatch.j0 k a0 t252 (bt254.2.2 != t252) t248 t249 bt254.1 bt254.2.1) else (laws_FnExactReadBatch.j0 k a0 t252 true t248 t249 bt254.1 bt254.2.1)))) = some r := H; have A3 := Aside0.mk A30; clear A30; replace H := Option.bind_eq_some_iff.mp H; obtain ⟨⟨t254, t255, t258⟩, A40, H⟩ := H; replace H : ((laws_eqBatch.f k t254 t255 t248 t249).bind fun t260 => (if t260 = true then (laws_FnExactReadBatch.j0 k a0 t252 (t258 != t252) t248 t249 t254 t255) else (laws_FnExactReadBatch.j0 k a0 t252 true t248 t249 t254 t255))) = some r := H; have A4 := Aside0.mk A40; clear A40; have HC5 := Aside0.mk H; clear H; go_enter Try.func8, Try.ntmps8
   go_upto_region 5 with (first | ((with_reducible refine gate_callee (f := 34) rfl ?_); refine goesL_ (some 16) rfl rfl Try.func34 (by kernel_rfl) rfl #[.string a0] rfl t5_ ?_; (with_reducible refine (spec_ReadBatch.calls k a0 t248 t249 t252 _ A3.out).mono ?_); rintro e w6 ⟨v250, rfl, ho0, hb⟩; refine ⟨_, rfl, ?_⟩; have HO251 := Aside0.mk (Kd.R_lower ho0 (below_size t0_)); replace HB := bS t0_ hb; (try clear hb); (try clear ho0)) | ((with_reducible refine gate_dst (N := 3) rfl ?_); refine boxE (N := 3) (cs := #[.int .i64 0, .slice none 0 0]) (t := 46) (h := ?_); intro gb253 hg w7 hbox hb; replace HO251 := Aside0.mk (Kd.R_below (zK HO251) hb); have BK253 := Aside0.mk (hbox); have GW253 := Aside0.mk ((t7_ : w.heap.size ≤ gb253)); have GE253 := GW253; replace HB := bS t0_ hb; clear hb hbox hg; obtain ⟨hcz8_0, hcz8_1, hfz8_0, hfz8_1⟩ := ba2 BK253; obtain ⟨Ao9, co9, eo9⟩ := Kd.R_slice HO251.out; subst eo9) | ((with_reducible refine gate_callee (f := 27) rfl ?_); refine goesL_ (some 21) rfl rfl Try.func27 (by kernel_rfl) rfl #[.string a0] rfl t5_ ?_; (with_reducible refine (impl_ReadBatch.calls k a0 t254 t255 t258 _ A4.out).mono ?_); rintro e w10 ⟨v256, rfl, ho0, hb⟩; refine ⟨_, rfl, ?_⟩; have HO257 := Aside0.mk (Kd.R_lower (Kd.R_new' ho0 (Kd.R_lt (by (with_reducible repeat (first | apply Kd.R_alloc | apply Kd.R_drewN | apply Kd.R_drew)); exact (Kd.R_mono (Kd.R_far (p := ⟨gb253, 1, none⟩) (Kd.R_far (p := ⟨gb253, 0, none⟩) (Kd.R_types HO251.out BK253.out (by decide)) (fun _ hk => hk.2) (.int .i64 t248)) (fun _ hk => hk.2) (.slice Ao9 t249.length co9)) (fun _ h_ => h_.1))))) (below_size t24_)); replace HO251 := Aside0.mk (Kd.R_elder' (by (with_reducible repeat (first | apply Kd.R_alloc | apply Kd.R_drewN | apply Kd.R_drew)); exact (Kd.R_mono (Kd.R_far (p := ⟨gb253, 1, none⟩) (Kd.R_far (p := ⟨gb253, 0, none⟩) (Kd.R_types HO251.out BK253.out (by decide)) (fun _ hk => hk.2) (.int .i64 t248)) (fun _ hk => hk.2) (.slice Ao9 t249.length co9)) (fun _ h_ => h_.1))) (Kd.R_base ho0) hb); replace BK253 := Aside0.mk (blk_below (g := gb253) (o := .cells #[.int .i64 t248, .slice Ao9 t249.length co9] 46 (0, 0)) (zQ2 BK253) hb); replace HB := bS t24_ hb; (try clear hb); (try clear hk); (try clear ho0)) | ((with_reducible refine gate_dst (N := 5) rfl ?_); refine boxE (N := 5) (cs := #[.int .i64 0, .slice none 0 0]) (t := 46) (h := ?_); intro gb259 hg w11 hbox hb; replace HO251 := Aside0.mk (Kd.R_below (zK HO251) hb); replace HO257 := Aside0.mk (Kd.R_below (zK HO257) hb); have BK259 := Aside0.mk (hbox); have GW259 := Aside0.mk ((by rw [hg]; exact (below_size t24_) : w.heap.size ≤ gb259)); have GE259 := Aside0.mk ((by rw [hg]; exact (below_size t24_) : w.heap.size ≤ gb259)); replace HB := bS t24_ hb; have NB253_259 := nbL BK253 hg; have NB259_253 := nbG BK253 hg; replace BK253 := bkN BK253 hb; clear hb hbox hg; have hnb12 := NB259_253.out; have hnc12 := NB253_259.out; obtain ⟨hcz13_0, hcz13_1, hfz13_0, hfz13_1⟩ := ba2 BK259; obtain ⟨Ao14, co14, eo14⟩ := Kd.R_slice HO257.out; subst eo14))
   (try simp only [Act.put, List.setIfInBounds_toArray, List.set_cons_zero, List.set_cons_succ])
   go_cut [32] (fun v32 wc => ∃ (kq : Nat) (x32_4 : Bool), v32 = .bool x32_4 ∧ Aside0 (laws_FnExactReadBatch.j0 kq a0 t252 x32_4 t248 t249 t254 t255 = some r) ∧ Aside0 (kq ≤ k) ∧ Aside0 (Kd.R k80 80 wc w.heap.size (fun k_ => some k_ ≠ ((.slice Ao14 t255.length co14) : Value).ownBlock) (.slice Ao9 t249.length co9) t249) ∧ Aside0 (Kd.R k80 80 wc w.heap.size (fun k_ => some k_ ≠ ((.slice Ao9 t249.length co9) : Value).ownBlock) (.slice Ao14 t255.length co14) t255) ∧ Aside0 (wc.heap[gb253]? = some (.cells #[.int .i64 t248, (.slice Ao9 t249.length co9)] 46 (0, 0))) ∧ Aside0 (wc.heap[gb259]? = some (.cells #[.int .i64 t254, (.slice Ao14 t255.length co14)] 46 (0, 0))) ∧ Aside0 (Below w.heap.size w wc))
   case first =>
    have H := HC5.out; clear HC5; replace H := Option.bind_eq_some_iff.mp H; obtain ⟨t260, A150, H⟩ := H; replace H : (if t260 = true then (laws_FnExactReadBatch.j0 k a0 t252 (t258 != t252) t248 t249 t254 t255) else (laws_FnExactReadBatch.j0 k a0 t252 true t248 t249 t254 t255)) = some r := H; have A15 := Aside0.mk A150; clear A150; by_cases c16 : t260 = true
    · subst c16; have H1 : (laws_FnExactReadBatch.j0 k a0 t252 (t258 != t252) t248 t249 t254 t255) = some r := by rw [if_pos rfl] at H; exact H
      clear H; have H := H1; clear H1; have H' := Aside0.mk H; clear H; have hnb17 := NB259_253.out; have hnc17 := NB253_259.out; obtain ⟨hcz18_0, hcz18_1, hfz18_0, hfz18_1⟩ := ba2 BK259; obtain ⟨hcz19_0, hcz19_1, hfz19_0, hfz19_1⟩ := ba2 BK253
      go_wp2_with (first | ((with_reducible refine gate_callee (f := 35) rfl ?_); refine goesL_ (some 26) rfl rfl Try.func35 (by kernel_rfl) rfl #[.agg #[.int .i64 t254, .slice Ao14 t255.length co14], .agg #[.int .i64 t248, .slice Ao9 t249.length co9]] rfl t5_ ?_; (with_reducible refine (laws_eqBatch.calls k t254 _ _ t255 t248 _ _ t249 true _ ?side1 ?side2 ?side3 ?side4 A15.out).mono ?_); (case side1 => refine (Kd.R_reads' (e := 80) (base := w.heap.size) (ok := fun k_ => (True ∧ some k_ ≠ (.slice Ao9 t249.length co9 : Value).ownBlock)) (n := t255.length) (c := co14) ?_).2.2; exact (by (with_reducible repeat (first | apply Kd.R_alloc | apply Kd.R_drewN | apply Kd.R_drew)); exact (Kd.R_mono (Kd.R_far (p := ⟨gb259, 1, none⟩) (Kd.R_far (p := ⟨gb259, 0, none⟩) (Kd.R_types HO257.out BK259.out (by decide)) (fun _ hk => hk.2) (.int .i64 t254)) (fun _ hk => hk.2) (.slice Ao14 t255.length co14)) (fun _ h_ => h_.1)))); (case side2 => exact (Kd.R_reads' HO257.out).2.1); (case side3 => refine (Kd.R_reads' (e := 80) (base := w.heap.size) (ok := fun k_ => (True ∧ some k_ ≠ (.slice Ao14 t255.length co14 : Value).ownBlock)) (n := t249.length) (c := co9) ?_).2.2; exact (by (with_reducible repeat (first | apply Kd.R_alloc | apply Kd.R_drewN | apply Kd.R_drew)); exact (Kd.R_mono (Kd.R_far (p := ⟨gb259, 1, none⟩) (Kd.R_far (p := ⟨gb259, 0, none⟩) (Kd.R_types HO251.out BK259.out (by decide)) (fun _ hk => hk.2) (.int .i64 t254)) (fun _ hk => hk.2) (.slice Ao14 t255.length co14)) (fun _ h_ => h_.1)))); (case side4 => exact (Kd.R_reads' HO251.out).2.1); rintro e w20 ⟨rfl, hb⟩; refine ⟨_, rfl, ?_⟩; replace HO251 := Aside0.mk (Kd.R_below (by (with_reducible repeat (first | apply Kd.R_alloc | apply Kd.R_drewN | apply Kd.R_drew)); exact (Kd.R_mono (Kd.R_far (p := ⟨gb259, 1, none⟩) (Kd.R_far (p := ⟨gb259, 0, none⟩) (Kd.R_types HO251.out BK259.out (by decide)) (fun _ hk => hk.2) (.int .i64 t254)) (fun _ hk => hk.2) (.slice Ao14 t255.length co14)) (fun _ h_ => h_.1))) hb); replace HO257 := Aside0.mk (Kd.R_below (by (with_reducible repeat (first | apply Kd.R_alloc | apply Kd.R_drewN | apply Kd.R_drew)); exact (Kd.R_mono (Kd.R_far (p := ⟨gb259, 1, none⟩) (Kd.R_far (p := ⟨gb259, 0, none⟩) (Kd.R_types HO257.out BK259.out (by decide)) (fun _ hk => hk.2) (.int .i64 t254)) (fun _ hk => hk.2) (.slice Ao14 t255.length co14)) (fun _ h_ => h_.1))) hb); replace BK253 := Aside0.mk (blk_below (g := gb253) (o := .cells #[.int .i64 t248, .slice Ao9 t249.length co9] 46 (0, 0)) (zF2 BK253 NB253_259 NB253_259) hb); replace BK259 := Aside0.mk (blk_below (g := gb259) (o := .cells #[.int .i64 t254, .slice Ao14 t255.length co14] 46 (0, 0)) (zQ2 BK259) hb); replace HB := bS t16_ hb; (try clear hb); (try clear hk)))
      go_meet
      case rel => exact ⟨_, ((t258 != t252)), t10_, H', ⟨by first | omega | exact Nat.le_refl _⟩, ⟨by (with_reducible repeat (first | apply Kd.R_alloc | apply Kd.R_drewN | apply Kd.R_drew)); exact Kd.R_mono HO251.out (fun _ hk => hk.2)⟩, ⟨by (with_reducible repeat (first | apply Kd.R_alloc | apply Kd.R_drewN | apply Kd.R_drew)); exact Kd.R_mono HO257.out (fun _ hk => hk.2)⟩, ⟨zN BK253⟩, ⟨zN BK259⟩, ⟨t16_⟩⟩
    · replace c16 := Bool.eq_false_iff.mpr c16; subst c16; have H1 : (laws_FnExactReadBatch.j0 k a0 t252 true t248 t249 t254 t255) = some r := by rw [if_neg (show ¬ (false = true) by decide)] at H; exact H
      clear H; have H := H1; clear H1; have H' := Aside0.mk H; clear H; have hnb21 := NB259_253.out; have hnc21 := NB253_259.out; obtain ⟨hcz22_0, hcz22_1, hfz22_0, hfz22_1⟩ := ba2 BK259; obtain ⟨hcz23_0, hcz23_1, hfz23_0, hfz23_1⟩ := ba2 BK253
      go_wp2_with (first | ((with_reducible refine gate_callee (f := 35) rfl ?_); refine goesL_ (some 26) rfl rfl Try.func35 (by kernel_rfl) rfl #[.agg #[.int .i64 t254, .slice Ao14 t255.length co14], .agg #[.int .i64 t248, .slice Ao9 t249.length co9]] rfl t5_ ?_; (with_reducible refine (laws_eqBatch.calls k t254 _ _ t255 t248 _ _ t249 false _ ?side1 ?side2 ?side3 ?side4 A15.out).mono ?_); (case side1 => refine (Kd.R_reads' (e := 80) (base := w.heap.size) (ok := fun k_ => (True ∧ some k_ ≠ (.slice Ao9 t249.length co9 : Value).ownBlock)) (n := t255.length) (c := co14) ?_).2.2; exact (by (with_reducible repeat (first | apply Kd.R_alloc | apply Kd.R_drewN | apply Kd.R_drew)); exact (Kd.R_mono (Kd.R_far (p := ⟨gb259, 1, none⟩) (Kd.R_far (p := ⟨gb259, 0, none⟩) (Kd.R_types HO257.out BK259.out (by decide)) (fun _ hk => hk.2) (.int .i64 t254)) (fun _ hk => hk.2) (.slice Ao14 t255.length co14)) (fun _ h_ => h_.1)))); (case side2 => exact (Kd.R_reads' HO257.out).2.1); (case side3 => refine (Kd.R_reads' (e := 80) (base := w.heap.size) (ok := fun k_ => (True ∧ some k_ ≠ (.slice Ao14 t255.length co14 : Value).ownBlock)) (n := t249.length) (c := co9) ?_).2.2; exact (by (with_reducible repeat (first | apply Kd.R_alloc | apply Kd.R_drewN | apply Kd.R_drew)); exact (Kd.R_mono (Kd.R_far (p := ⟨gb259, 1, none⟩) (Kd.R_far (p := ⟨gb259, 0, none⟩) (Kd.R_types HO251.out BK259.out (by decide)) (fun _ hk => hk.2) (.int .i64 t254)) (fun _ hk => hk.2) (.slice Ao14 t255.length co14)) (fun _ h_ => h_.1)))); (case side4 => exact (Kd.R_reads' HO251.out).2.1); rintro e w24 ⟨rfl, hb⟩; refine ⟨_, rfl, ?_⟩; replace HO251 := Aside0.mk (Kd.R_below (by (with_reducible repeat (first | apply Kd.R_alloc | apply Kd.R_drewN | apply Kd.R_drew)); exact (Kd.R_mono (Kd.R_far (p := ⟨gb259, 1, none⟩) (Kd.R_far (p := ⟨gb259, 0, none⟩) (Kd.R_types HO251.out BK259.out (by decide)) (fun _ hk => hk.2) (.int .i64 t254)) (fun _ hk => hk.2) (.slice Ao14 t255.length co14)) (fun _ h_ => h_.1))) hb); replace HO257 := Aside0.mk (Kd.R_below (by (with_reducible repeat (first | apply Kd.R_alloc | apply Kd.R_drewN | apply Kd.R_drew)); exact (Kd.R_mono (Kd.R_far (p := ⟨gb259, 1, none⟩) (Kd.R_far (p := ⟨gb259, 0, none⟩) (Kd.R_types HO257.out BK259.out (by decide)) (fun _ hk => hk.2) (.int .i64 t254)) (fun _ hk => hk.2) (.slice Ao14 t255.length co14)) (fun _ h_ => h_.1))) hb); replace BK253 := Aside0.mk (blk_below (g := gb253) (o := .cells #[.int .i64 t248, .slice Ao9 t249.length co9] 46 (0, 0)) (zF2 BK253 NB253_259 NB253_259) hb); replace BK259 := Aside0.mk (blk_below (g := gb259) (o := .cells #[.int .i64 t254, .slice Ao14 t255.length co14] 46 (0, 0)) (zQ2 BK259) hb); replace HB := bS t16_ hb; (try clear hb); (try clear hk)))
      go_meet
      case rel => exact ⟨_, (true), t10_, H', ⟨by first | omega | exact Nat.le_refl _⟩, ⟨by (with_reducible repeat (first | apply Kd.R_alloc | apply Kd.R_drewN | apply Kd.R_drew)); exact Kd.R_mono HO251.out (fun _ hk => hk.2)⟩, ⟨by (with_reducible repeat (first | apply Kd.R_alloc | apply Kd.R_drewN | apply Kd.R_drew)); exact Kd.R_mono HO257.out (fun _ hk => hk.2)⟩, ⟨zN BK253⟩, ⟨zN BK259⟩, ⟨t16_⟩⟩
   case rest =>
    clear HC5
    try clear c1
    try clear c2
    try clear c2b0
    try clear c2b1
    try clear p2
    try clear c3
    try clear c8
    try clear c12
    try clear c16
    try clear c17
    try clear c21
    try clear hcz13_0
    try clear hcz13_1
    try clear hcz18_0
    try clear hcz18_1
    try clear hcz19_0
    try clear hcz19_1
    try clear hcz22_0
    try clear hcz22_1
    try clear hcz23_0
    try clear hcz23_1
    try clear hcz8_0
    try clear hcz8_1
    try clear hfz13_0
    try clear hfz13_1
    try clear hfz18_0
    try clear hfz18_1
    try clear hfz19_0
    try clear hfz19_1
    try clear hfz22_0
    try clear hfz22_1
    try clear hfz23_0
    try clear hfz23_1
    try clear hfz8_0
    try clear hfz8_1
    obtain ⟨kq, x32_4, rfl, HA, HJ4, HO_254001, HO_260001, BK253, BK259, HB⟩ := hcut
    cases kq with
    | zero => exact absurd HA.out (by simp [laws_FnExactReadBatch.j0])
    | succ kj4 =>
     have H := HA.out; clear HA; simp only [laws_FnExactReadBatch.j0] at H; by_cases c25 : x32_4 = true
     · subst c25; have H1 : (none) = some r := by rw [if_pos rfl] at H; exact H
       clear H; have H := H1; clear H1; exact absurd H (by simp)
     · replace c25 := Bool.eq_false_iff.mpr c25; subst c25; have H1 : ((laws_markBatch.f kj4 t254 t255 1).bind fun bt261 => ((laws_heldBatch.f kj4 t254 bt261.2 1).bind fun t263 => (if t263 < 0 then (none) else (if t263 = bt261.1 then ((impl_ReadBatch.f kj4 a0).bind fun bt264 => ((laws_eqBatch.f kj4 bt264.1 bt264.2.1 t248 t249).bind fun t270 => (if t270 = true then (laws_FnExactReadBatch.j1 kj4 bt261.1 (bt264.2.2 != t252) t254 bt261.2) else (laws_FnExactReadBatch.j1 kj4 bt261.1 true t254 bt261.2)))) else (none))))) = some r := by rw [if_neg (show ¬ (false = true) by decide)] at H; exact H
       clear H; have H := H1; clear H1; replace H := Option.bind_eq_some_iff.mp H; obtain ⟨⟨t261, t262⟩, A260, H⟩ := H; replace H : ((laws_heldBatch.f kj4 t254 t262 1).bind fun t263 => (if t263 < 0 then (none) else (if t263 = t261 then ((impl_ReadBatch.f kj4 a0).bind fun bt264 => ((laws_eqBatch.f kj4 bt264.1 bt264.2.1 t248 t249).bind fun t270 => (if t270 = true then (laws_FnExactReadBatch.j1 kj4 t261 (bt264.2.2 != t252) t254 t262) else (laws_FnExactReadBatch.j1 kj4 t261 true t254 t262)))) else (none)))) = some r := H; have A26 := Aside0.mk A260; clear A260; replace H := Option.bind_eq_some_iff.mp H; obtain ⟨t263, A270, H⟩ := H; replace H : (if t263 < 0 then (none) else (if t263 = t261 then ((impl_ReadBatch.f kj4 a0).bind fun bt264 => ((laws_eqBatch.f kj4 bt264.1 bt264.2.1 t248 t249).bind fun t270 => (if t270 = true then (laws_FnExactReadBatch.j1 kj4 t261 (bt264.2.2 != t252) t254 t262) else (laws_FnExactReadBatch.j1 kj4 t261 true t254 t262)))) else (none))) = some r := H; have A27 := Aside0.mk A270; clear A270; by_cases c28 : t263 < 0
       · rw [if_pos c28] at H; exact absurd H (by simp)
       · rw [if_neg c28] at H; have c28b0 : decide (t263 < 0) = false := decide_eq_false c28; clear c28; by_cases c29 : t263 = t261
         · rw [if_pos c29] at H; have c29b0 : (t263 == t261) = true := beq_iff_eq.mpr c29; have c29b1 : (t263 != t261) = false := bne_eq_false_iff_eq.mpr c29; clear c29; replace H := Option.bind_eq_some_iff.mp H; obtain ⟨⟨t264, t265, t268⟩, A300, H⟩ := H; replace H : ((laws_eqBatch.f kj4 t264 t265 t248 t249).bind fun t270 => (if t270 = true then (laws_FnExactReadBatch.j1 kj4 t261 (t268 != t252) t254 t262) else (laws_FnExactReadBatch.j1 kj4 t261 true t254 t262))) = some r := H; have A30 := Aside0.mk A300; clear A300; have HC31 := Aside0.mk H; clear H; have hnb32 := NB259_253.out; have hnc32 := NB253_259.out; obtain ⟨hcz33_0, hcz33_1, hfz33_0, hfz33_1⟩ := ba2 BK259
           go_upto_region 16 with (first | ((with_reducible refine gate_callee (f := 36) rfl ?_); refine goesL_ (some 35) rfl rfl Try.func36 (by kernel_rfl) rfl #[.agg #[.int .i64 t254, .slice Ao14 t255.length co14], .int .i64 1] rfl t5_ ?_; (with_reducible refine (laws_markBatch.calls kj4 t254 (fun k_ => some k_ = (.slice Ao14 t255.length co14 : Value).ownBlock) (.slice Ao14 t255.length co14) t255 1 t261 t262 w _ ?side1 ?side2 A26.out).mono ?_); (case side1 => repeat (first | (with_reducible first | exact HB.out | apply below_alloc | apply pw_below_drewN | apply below_drew1 | refine below_set ?_ GE253.out | refine below_set ?_ GE259.out) | exact HB.out)); (case side2 => exact Kd.R_tight rfl HO_260001.out); rintro e w34 ⟨rfl, hy0, hb, hkp⟩; refine ⟨_, rfl, ?_⟩; replace HO_254001 := Aside0.mk (Kd.R_mono (ok' := fun k_ => some k_ ≠ (.slice Ao14 t255.length co14 : Value).ownBlock) (Kd.R_keptB (HO_254001.out) hkp (fun k_ hk_ hs_ => (hk_) hs_)) (fun k_ hk_ => hk_.1)); replace BK253 := Aside0.mk (blk_kept (zN BK253) hkp (fun hs_ => (fun e_ => (Kd.R_ne HO_260001.out BK253.out (by decide)) e_) hs_)); replace BK259 := Aside0.mk (blk_kept (zN BK259) hkp (fun hs_ => (fun e_ => (Kd.R_ne HO_260001.out BK259.out (by decide)) e_) hs_)); replace HO_260001 := Aside0.mk (Kd.R_reok rfl hy0 (fun k_ e_ => HO_260001.out.1 k_ e_)); replace HB := Aside0.mk (hb); (try clear hb); (try clear hkp); (try clear hy0); obtain ⟨hcz35_0, hcz35_1, hfz35_0, hfz35_1⟩ := ba2 BK259) | ((with_reducible refine gate_callee (f := 37) rfl ?_); refine goesL_ (some 38) rfl rfl Try.func37 (by kernel_rfl) rfl #[.agg #[.int .i64 t254, .slice Ao14 t262.length co14], .int .i64 1] rfl (by (try simp only [List.map_toArray, List.map_cons, List.map_nil]); first | done | (rw [show t262.length = t255.length from (Kd.R_reads' HO_260001.out).1.symm] <;> rfl) | rfl | (simp only [List.length_drop, List.length_take]; rfl)) ?_; (with_reducible refine (laws_heldBatch.calls kj4 t254 _ _ t262 1 t263 _ ?side1 ?side2 A27.out).mono ?_); (case side1 => repeat (first | exact (Kd.R_reads' HO_260001.out).2.2 | (with_reducible refine Kd.C_alloc ?_ _) | (with_reducible refine Kd.C_drewN ?_ _) | (with_reducible refine Kd.C_drew ?_))); (case side2 => rw [show t262.length = t255.length from (Kd.R_reads' HO_260001.out).1.symm]; exact (Kd.R_reads' HO_260001.out).2.1); rintro e w36 ⟨rfl, hb⟩; refine ⟨_, rfl, ?_⟩; replace HO_254001 := Aside0.mk (Kd.R_below t27_ hb); replace HO_260001 := Aside0.mk (Kd.R_below t28_ hb); replace BK253 := bkN BK253 hb; replace BK259 := bkN BK259 hb; replace HB := bS t16_ hb; (try clear hb)) | ((with_reducible refine gate_callee (f := 27) rfl ?_); refine goesL_ (some 46) rfl rfl Try.func27 (by kernel_rfl) rfl #[.string a0] rfl t5_ ?_; (with_reducible refine (impl_ReadBatch.calls kj4 a0 t264 t265 t268 _ A30.out).mono ?_); rintro e w37 ⟨v266, rfl, ho0, hb⟩; refine ⟨_, rfl, ?_⟩; have HO267 := Aside0.mk (Kd.R_lower (Kd.R_new' (Kd.R_new' ho0 (Kd.R_lt t27_)) (Kd.R_lt t28_)) (below_size t16_)); replace HO_254001 := Aside0.mk (Kd.R_elder' t27_ (Kd.R_base ho0) hb); replace HO_260001 := Aside0.mk (Kd.R_elder' t28_ (Kd.R_base ho0) hb); replace BK253 := bkN BK253 hb; replace BK259 := bkN BK259 hb; replace HB := bS t16_ hb; (try clear hb); (try clear ho0)) | ((with_reducible refine gate_dst (N := 9) rfl ?_); refine boxE (N := 9) (cs := #[.int .i64 0, .slice none 0 0]) (t := 46) (h := ?_); intro gb269 hg w38 hbox hb; replace HO_254001 := Aside0.mk (Kd.R_below t27_ hb); replace HO_260001 := Aside0.mk (Kd.R_below t28_ hb); replace HO267 := Aside0.mk (Kd.R_below (zK HO267) hb); have BK269 := Aside0.mk (hbox); have GW269 := Aside0.mk ((by rw [hg]; exact (below_size t16_) : w.heap.size ≤ gb269)); have GE269 := Aside0.mk ((by rw [hg]; exact (below_size t16_) : w.heap.size ≤ gb269)); replace HB := bS t16_ hb; have NB253_269 := nbL BK253 hg; have NB269_253 := nbG BK253 hg; replace BK253 := bkN BK253 hb; have NB259_269 := nbL BK259 hg; have NB269_259 := nbG BK259 hg; replace BK259 := bkN BK259 hb; clear hb hbox hg; have hnb39 := NB269_253.out; have hnc39 := NB253_269.out; have hnb40 := NB269_259.out; have hnc40 := NB259_269.out; obtain ⟨hcz41_0, hcz41_1, hfz41_0, hfz41_1⟩ := ba2 BK269; obtain ⟨Ao42, co42, eo42⟩ := Kd.R_slice HO267.out; subst eo42))
           (try simp only [Act.put, List.setIfInBounds_toArray, List.set_cons_zero, List.set_cons_succ])
           go_cut [57] (fun v57 wc => ∃ (kq : Nat) (x57_30 : Bool), v57 = .bool x57_30 ∧ Aside0 (laws_FnExactReadBatch.j1 kq t261 x57_30 t254 t262 = some r) ∧ Aside0 (kq ≤ kj4) ∧ Aside0 (Kd.R k80 80 wc w.heap.size (fun k_ => some k_ ≠ ((.slice Ao14 t255.length co14) : Value).ownBlock ∧ some k_ ≠ ((.slice Ao42 t265.length co42) : Value).ownBlock) (.slice Ao9 t249.length co9) t249) ∧ Aside0 (Kd.R k80 80 wc w.heap.size (fun k_ => some k_ ≠ ((.slice Ao9 t249.length co9) : Value).ownBlock ∧ some k_ ≠ ((.slice Ao42 t265.length co42) : Value).ownBlock) (.slice Ao14 t255.length co14) t262) ∧ Aside0 (Kd.R k80 80 wc w.heap.size (fun k_ => some k_ ≠ ((.slice Ao9 t249.length co9) : Value).ownBlock ∧ some k_ ≠ ((.slice Ao14 t255.length co14) : Value).ownBlock) (.slice Ao42 t265.length co42) t265) ∧ Aside0 (wc.heap[gb253]? = some (.cells #[.int .i64 t248, (.slice Ao9 t249.length co9)] 46 (0, 0))) ∧ Aside0 (wc.heap[gb259]? = some (.cells #[.int .i64 t254, (.slice Ao14 t255.length co14)] 46 (0, 0))) ∧ Aside0 (wc.heap[gb269]? = some (.cells #[.int .i64 t264, (.slice Ao42 t265.length co42)] 46 (0, 0))) ∧ Aside0 (Below w.heap.size w wc))
           case first =>
            have H := HC31.out; clear HC31; replace H := Option.bind_eq_some_iff.mp H; obtain ⟨t270, A430, H⟩ := H; replace H : (if t270 = true then (laws_FnExactReadBatch.j1 kj4 t261 (t268 != t252) t254 t262) else (laws_FnExactReadBatch.j1 kj4 t261 true t254 t262)) = some r := H; have A43 := Aside0.mk A430; clear A430; by_cases c44 : t270 = true
            · subst c44; have H1 : (laws_FnExactReadBatch.j1 kj4 t261 (t268 != t252) t254 t262) = some r := by rw [if_pos rfl] at H; exact H
              clear H; have H := H1; clear H1; have H' := Aside0.mk H; clear H; have hnb45 := NB269_253.out; have hnc45 := NB253_269.out; have hnb46 := NB269_259.out; have hnc46 := NB259_269.out; obtain ⟨hcz47_0, hcz47_1, hfz47_0, hfz47_1⟩ := ba2 BK269; have hnb48 := NB253_259.out; have hnc48 := NB259_253.out; obtain ⟨hcz49_0, hcz49_1, hfz49_0, hfz49_1⟩ := ba2 BK253
              go_wp2_with (first | ((with_reducible refine gate_callee (f := 35) rfl ?_); refine goesL_ (some 51) rfl rfl Try.func35 (by kernel_rfl) rfl #[.agg #[.int .i64 t264, .slice Ao42 t265.length co42], .agg #[.int .i64 t248, .slice Ao9 t249.length co9]] rfl t5_ ?_; (with_reducible refine (laws_eqBatch.calls kj4 t264 _ _ t265 t248 _ _ t249 true _ ?side1 ?side2 ?side3 ?side4 A43.out).mono ?_); (case side1 => refine (Kd.R_reads' (e := 80) (base := w.heap.size) (ok := fun k_ => ((True ∧ some k_ ≠ (.slice Ao9 t249.length co9 : Value).ownBlock) ∧ some k_ ≠ (.slice Ao14 t255.length co14 : Value).ownBlock)) (n := t265.length) (c := co42) ?_).2.2; exact (by (with_reducible repeat (first | apply Kd.R_alloc | apply Kd.R_drewN | apply Kd.R_drew)); exact (Kd.R_mono (Kd.R_far (p := ⟨gb269, 1, none⟩) (Kd.R_far (p := ⟨gb269, 0, none⟩) (Kd.R_types HO267.out BK269.out (by decide)) (fun _ hk => hk.2) (.int .i64 t264)) (fun _ hk => hk.2) (.slice Ao42 t265.length co42)) (fun _ h_ => h_.1)))); (case side2 => exact (Kd.R_reads' HO267.out).2.1); (case side3 => refine (Kd.R_reads' (e := 80) (base := w.heap.size) (ok := fun k_ => (some k_ ≠ (.slice Ao14 t255.length co14 : Value).ownBlock ∧ some k_ ≠ (.slice Ao42 t265.length co42 : Value).ownBlock)) (n := t249.length) (c := co9) ?_).2.2; exact (by (with_reducible repeat (first | apply Kd.R_alloc | apply Kd.R_drewN | apply Kd.R_drew)); exact (Kd.R_mono (Kd.R_far (p := ⟨gb269, 1, none⟩) (Kd.R_far (p := ⟨gb269, 0, none⟩) (Kd.R_types HO_254001.out BK269.out (by decide)) (fun _ hk => hk.2) (.int .i64 t264)) (fun _ hk => hk.2) (.slice Ao42 t265.length co42)) (fun _ h_ => h_.1)))); (case side4 => exact (Kd.R_reads' HO_254001.out).2.1); rintro e w50 ⟨rfl, hb⟩; refine ⟨_, rfl, ?_⟩; replace HO_254001 := Aside0.mk (Kd.R_below (by (with_reducible repeat (first | apply Kd.R_alloc | apply Kd.R_drewN | apply Kd.R_drew)); exact (Kd.R_mono (Kd.R_far (p := ⟨gb269, 1, none⟩) (Kd.R_far (p := ⟨gb269, 0, none⟩) (Kd.R_types HO_254001.out BK269.out (by decide)) (fun _ hk => hk.2) (.int .i64 t264)) (fun _ hk => hk.2) (.slice Ao42 t265.length co42)) (fun _ h_ => h_.1))) hb); replace HO_260001 := Aside0.mk (Kd.R_below (by (with_reducible repeat (first | apply Kd.R_alloc | apply Kd.R_drewN | apply Kd.R_drew)); exact (Kd.R_mono (Kd.R_far (p := ⟨gb269, 1, none⟩) (Kd.R_far (p := ⟨gb269, 0, none⟩) (Kd.R_types HO_260001.out BK269.out (by decide)) (fun _ hk => hk.2) (.int .i64 t264)) (fun _ hk => hk.2) (.slice Ao42 t265.length co42)) (fun _ h_ => h_.1))) hb); replace HO267 := Aside0.mk (Kd.R_below (by (with_reducible repeat (first | apply Kd.R_alloc | apply Kd.R_drewN | apply Kd.R_drew)); exact (Kd.R_mono (Kd.R_far (p := ⟨gb269, 1, none⟩) (Kd.R_far (p := ⟨gb269, 0, none⟩) (Kd.R_types HO267.out BK269.out (by decide)) (fun _ hk => hk.2) (.int .i64 t264)) (fun _ hk => hk.2) (.slice Ao42 t265.length co42)) (fun _ h_ => h_.1))) hb); replace BK253 := Aside0.mk (blk_below (g := gb253) (o := .cells #[.int .i64 t248, .slice Ao9 t249.length co9] 46 (0, 0)) (zF2 BK253 NB253_269 NB253_269) hb); replace BK259 := Aside0.mk (blk_below (g := gb259) (o := .cells #[.int .i64 t254, .slice Ao14 t255.length co14] 46 (0, 0)) (zF2 BK259 NB259_269 NB259_269) hb); replace BK269 := Aside0.mk (blk_below (g := gb269) (o := .cells #[.int .i64 t264, .slice Ao42 t265.length co42] 46 (0, 0)) (zQ2 BK269) hb); replace HB := bS t21_ hb; (try clear hb); (try clear hk)))
              go_meet
              case rel => exact ⟨_, ((t268 != t252)), t10_, H', ⟨by have := HJ4.out; first | omega | exact Nat.le_refl _⟩, ⟨zK HO_254001⟩, ⟨zK HO_260001⟩, ⟨by (with_reducible repeat (first | apply Kd.R_alloc | apply Kd.R_drewN | apply Kd.R_drew)); exact Kd.R_mono HO267.out (fun _ hk => ⟨hk.1.2, hk.2⟩)⟩, ⟨zN BK253⟩, ⟨zN BK259⟩, ⟨zN BK269⟩, ⟨t21_⟩⟩
            · replace c44 := Bool.eq_false_iff.mpr c44; subst c44; have H1 : (laws_FnExactReadBatch.j1 kj4 t261 true t254 t262) = some r := by rw [if_neg (show ¬ (false = true) by decide)] at H; exact H
              clear H; have H := H1; clear H1; have H' := Aside0.mk H; clear H; have hnb51 := NB269_253.out; have hnc51 := NB253_269.out; have hnb52 := NB269_259.out; have hnc52 := NB259_269.out; obtain ⟨hcz53_0, hcz53_1, hfz53_0, hfz53_1⟩ := ba2 BK269; have hnb54 := NB253_259.out; have hnc54 := NB259_253.out; obtain ⟨hcz55_0, hcz55_1, hfz55_0, hfz55_1⟩ := ba2 BK253
              go_wp2_with (first | ((with_reducible refine gate_callee (f := 35) rfl ?_); refine goesL_ (some 51) rfl rfl Try.func35 (by kernel_rfl) rfl #[.agg #[.int .i64 t264, .slice Ao42 t265.length co42], .agg #[.int .i64 t248, .slice Ao9 t249.length co9]] rfl t5_ ?_; (with_reducible refine (laws_eqBatch.calls kj4 t264 _ _ t265 t248 _ _ t249 false _ ?side1 ?side2 ?side3 ?side4 A43.out).mono ?_); (case side1 => refine (Kd.R_reads' (e := 80) (base := w.heap.size) (ok := fun k_ => ((True ∧ some k_ ≠ (.slice Ao9 t249.length co9 : Value).ownBlock) ∧ some k_ ≠ (.slice Ao14 t255.length co14 : Value).ownBlock)) (n := t265.length) (c := co42) ?_).2.2; exact (by (with_reducible repeat (first | apply Kd.R_alloc | apply Kd.R_drewN | apply Kd.R_drew)); exact (Kd.R_mono (Kd.R_far (p := ⟨gb269, 1, none⟩) (Kd.R_far (p := ⟨gb269, 0, none⟩) (Kd.R_types HO267.out BK269.out (by decide)) (fun _ hk => hk.2) (.int .i64 t264)) (fun _ hk => hk.2) (.slice Ao42 t265.length co42)) (fun _ h_ => h_.1)))); (case side2 => exact (Kd.R_reads' HO267.out).2.1); (case side3 => refine (Kd.R_reads' (e := 80) (base := w.heap.size) (ok := fun k_ => (some k_ ≠ (.slice Ao14 t255.length co14 : Value).ownBlock ∧ some k_ ≠ (.slice Ao42 t265.length co42 : Value).ownBlock)) (n := t249.length) (c := co9) ?_).2.2; exact (by (with_reducible repeat (first | apply Kd.R_alloc | apply Kd.R_drewN | apply Kd.R_drew)); exact (Kd.R_mono (Kd.R_far (p := ⟨gb269, 1, none⟩) (Kd.R_far (p := ⟨gb269, 0, none⟩) (Kd.R_types HO_254001.out BK269.out (by decide)) (fun _ hk => hk.2) (.int .i64 t264)) (fun _ hk => hk.2) (.slice Ao42 t265.length co42)) (fun _ h_ => h_.1)))); (case side4 => exact (Kd.R_reads' HO_254001.out).2.1); rintro e w56 ⟨rfl, hb⟩; refine ⟨_, rfl, ?_⟩; replace HO_254001 := Aside0.mk (Kd.R_below (by (with_reducible repeat (first | apply Kd.R_alloc | apply Kd.R_drewN | apply Kd.R_drew)); exact (Kd.R_mono (Kd.R_far (p := ⟨gb269, 1, none⟩) (Kd.R_far (p := ⟨gb269, 0, none⟩) (Kd.R_types HO_254001.out BK269.out (by decide)) (fun _ hk => hk.2) (.int .i64 t264)) (fun _ hk => hk.2) (.slice Ao42 t265.length co42)) (fun _ h_ => h_.1))) hb); replace HO_260001 := Aside0.mk (Kd.R_below (by (with_reducible repeat (first | apply Kd.R_alloc | apply Kd.R_drewN | apply Kd.R_drew)); exact (Kd.R_mono (Kd.R_far (p := ⟨gb269, 1, none⟩) (Kd.R_far (p := ⟨gb269, 0, none⟩) (Kd.R_types HO_260001.out BK269.out (by decide)) (fun _ hk => hk.2) (.int .i64 t264)) (fun _ hk => hk.2) (.slice Ao42 t265.length co42)) (fun _ h_ => h_.1))) hb); replace HO267 := Aside0.mk (Kd.R_below (by (with_reducible repeat (first | apply Kd.R_alloc | apply Kd.R_drewN | apply Kd.R_drew)); exact (Kd.R_mono (Kd.R_far (p := ⟨gb269, 1, none⟩) (Kd.R_far (p := ⟨gb269, 0, none⟩) (Kd.R_types HO267.out BK269.out (by decide)) (fun _ hk => hk.2) (.int .i64 t264)) (fun _ hk => hk.2) (.slice Ao42 t265.length co42)) (fun _ h_ => h_.1))) hb); replace BK253 := Aside0.mk (blk_below (g := gb253) (o := .cells #[.int .i64 t248, .slice Ao9 t249.length co9] 46 (0, 0)) (zF2 BK253 NB253_269 NB253_269) hb); replace BK259 := Aside0.mk (blk_below (g := gb259) (o := .cells #[.int .i64 t254, .slice Ao14 t255.length co14] 46 (0, 0)) (zF2 BK259 NB259_269 NB259_269) hb); replace BK269 := Aside0.mk (blk_below (g := gb269) (o := .cells #[.int .i64 t264, .slice Ao42 t265.length co42] 46 (0, 0)) (zQ2 BK269) hb); replace HB := bS t21_ hb; (try clear hb); (try clear hk)))
              go_meet
              case rel => exact ⟨_, (true), t10_, H', ⟨by have := HJ4.out; first | omega | exact Nat.le_refl _⟩, ⟨zK HO_254001⟩, ⟨zK HO_260001⟩, ⟨by (with_reducible repeat (first | apply Kd.R_alloc | apply Kd.R_drewN | apply Kd.R_drew)); exact Kd.R_mono HO267.out (fun _ hk => ⟨hk.1.2, hk.2⟩)⟩, ⟨zN BK253⟩, ⟨zN BK259⟩, ⟨zN BK269⟩, ⟨t21_⟩⟩
           case rest =>
            clear HC31
            try clear c1
            try clear c2
            try clear c2b0
            try clear c2b1
            try clear p2
            try clear c3
            try clear c4
            try clear c5
            try clear c8
            try clear c12
            try clear c16
            try clear c17
            try clear c21
            try clear c25
            try clear c27
            try clear c28
            try clear c28b0
            try clear c29
            try clear c29b0
            try clear c29b1
            try clear c32
            try clear c34
            try clear c35
            try clear c36
            try clear c37
            try clear c39
            try clear c40
            try clear c44
            try clear c45
            try clear c46
            try clear c48
            try clear c51
            try clear c52
            try clear c54
            try clear hcz13_0
            try clear hcz13_1
            try clear hcz18_0
            try clear hcz18_1
            try clear hcz19_0
            try clear hcz19_1
            try clear hcz22_0
            try clear hcz22_1
            try clear hcz23_0
            try clear hcz23_1
            try clear hcz33_0
            try clear hcz33_1
            try clear hcz35_0
            try clear hcz35_1
            try clear hcz41_0
            try clear hcz41_1
            try clear hcz47_0
            try clear hcz47_1
            try clear hcz49_0
            try clear hcz49_1
            try clear hcz53_0
            try clear hcz53_1
            try clear hcz55_0
            try clear hcz55_1
            try clear hcz8_0
            try clear hcz8_1
            try clear hfz13_0
            try clear hfz13_1
            try clear hfz18_0
            try clear hfz18_1
            try clear hfz19_0
            try clear hfz19_1
            try clear hfz22_0
            try clear hfz22_1
            try clear hfz23_0
            try clear hfz23_1
            try clear hfz33_0
            try clear hfz33_1
            try clear hfz35_0
            try clear hfz35_1
            try clear hfz41_0
            try clear hfz41_1
            try clear hfz47_0
            try clear hfz47_1
            try clear hfz49_0
            try clear hfz49_1
            try clear hfz53_0
            try clear hfz53_1
            try clear hfz55_0
            try clear hfz55_1
            try clear hfz8_0
            try clear hfz8_1
            try clear p2
            obtain ⟨kq, x57_30, rfl, HA, HJ30, HO_254001, HO_260001, HO_270001, BK253, BK259, BK269, HB⟩ := hcut; have hl260001_30 := (Kd.R_reads' HO_260001.out).1; rw [hl260001_30] at HO_260001
            (try simp only [hl260001_30])
            (try simp only [hl260001_30] at BK253)
            (try simp only [hl260001_30] at BK259)
            (try simp only [hl260001_30] at BK269)
            (try simp only [hl260001_30] at HO_254001)
            (try simp only [hl260001_30] at HO_270001)
            cases kq with
            | zero => exact absurd HA.out (by simp [laws_FnExactReadBatch.j1])
            | succ kj30 =>
             have H := HA.out; clear HA; simp only [laws_FnExactReadBatch.j1] at H; by_cases c57 : x57_30 = true
             · subst c57; have H1 : (none) = some r := by rw [if_pos rfl] at H; exact H
               clear H; have H := H1; clear H1; exact absurd H (by simp)
             · replace c57 := Bool.eq_false_iff.mpr c57; subst c57; have H1 : ((laws_heldBatch.f kj30 t254 t262 1).bind fun t271 => (if t271 < 0 then (none) else (if t271 = t261 then (some true) else (none)))) = some r := by rw [if_neg (show ¬ (false = true) by decide)] at H; exact H
               clear H; have H := H1; clear H1; replace H := Option.bind_eq_some_iff.mp H; obtain ⟨t271, A580, H⟩ := H; replace H : (if t271 < 0 then (none) else (if t271 = t261 then (some true) else (none))) = some r := H; have A58 := Aside0.mk A580; clear A580; by_cases c59 : t271 < 0
               · rw [if_pos c59] at H; exact absurd H (by simp)
               · rw [if_neg c59] at H; have c59b0 : decide (t271 < 0) = false := decide_eq_false c59; clear c59; by_cases c60 : t271 = t261
                 · rw [if_pos c60] at H; have c60b0 : (t271 == t261) = true := beq_iff_eq.mpr c60; have c60b1 : (t271 != t261) = false := bne_eq_false_iff_eq.mpr c60; clear c60; obtain rfl := Option.some.inj H; have hnb61 := NB259_253.out; have hnc61 := NB253_259.out; have hnb62 := NB259_269.out; have hnc62 := NB269_259.out; obtain ⟨hcz63_0, hcz63_1, hfz63_0, hfz63_1⟩ := ba2 BK259
                   go_wp2_with (first | ((with_reducible refine gate_callee (f := 37) rfl ?_); refine goesL_ (some 60) rfl rfl Try.func37 (by kernel_rfl) rfl #[.agg #[.int .i64 t254, .slice Ao14 t262.length co14], .int .i64 1] rfl t5_ ?_; (with_reducible refine (laws_heldBatch.calls kj30 t254 _ _ t262 1 t271 _ ?side1 ?side2 A58.out).mono ?_); (case side1 => repeat (first | exact (Kd.R_reads' HO_260001.out).2.2 | (with_reducible refine Kd.C_alloc ?_ _) | (with_reducible refine Kd.C_drewN ?_ _) | (with_reducible refine Kd.C_drew ?_))); (case side2 => exact (Kd.R_reads' HO_260001.out).2.1); rintro e w64 ⟨rfl, hb⟩; refine ⟨_, rfl, ?_⟩; replace HO_254001 := Aside0.mk (Kd.R_below t27_ hb); replace HO_260001 := Aside0.mk (Kd.R_below t28_ hb); replace HO_270001 := Aside0.mk (Kd.R_below (zK HO_270001) hb); replace BK253 := bkN BK253 hb; replace BK259 := bkN BK259 hb; replace BK269 := bkN BK269 hb; replace HB := bS t21_ hb; (try clear hb)))
                   go_ret; exact ⟨by first | rfl | (simp [errW_none, errW_some] <;> rfl) | (simp [*, errW_none, errW_some] <;> rfl), t21_⟩
                 · rw [if_neg c60] at H; exact absurd H (by simp)
         · rw [if_neg c29] at H; exact absurd H (by simp)

/-- THE ONE PURE STATEMENT of laws_FnExactReadBatch: yours. -/
def laws_FnExactReadBatch.Pure : Prop := ∀ (a0 : ByteArray), a0.size ≤ 140737488351232 → ∃ k, laws_FnExactReadBatch.f k a0 = some true
theorem laws_FnExactReadBatch.walk (P : laws_FnExactReadBatch.Pure) (a0 : ByteArray) (w : World) (w0 : a0.size ≤ 140737488351232) :
 Calls Try.prog 8 #[.string a0] w fun e w' => e = .returned (.bool true) ∧ Below w.heap.size w w' := by
 obtain ⟨k, h⟩ := P a0 w0; refine (laws_FnExactReadBatch.calls k a0 true w h).mono ?_
 rintro e w' ⟨rfl, hd⟩; exact ⟨rfl, hd⟩

end Go.Proofs.Ytpnncgfmihjlkaa.QFnExactReadBatch
