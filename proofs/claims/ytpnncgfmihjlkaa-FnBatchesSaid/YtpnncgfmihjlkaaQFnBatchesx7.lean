-- By a program of this session, over the kit's print.
import Derived.Test.YtpnncgfmihjlkaaQFnBatchesx0
import Derived.Test.YtpnncgfmihjlkaaQFnBatchesx6
namespace Go.Proofs.Ytpnncgfmihjlkaa.QFnBatches
open Go.RowKit Go.Proofs.YtpnncgfmihjlkaaW.PrintWords Go.Proofs.YtpnncgfmihjlkaaW.PrintLast Go.Proofs.YtpnncgfmihjlkaaW.PrintMore
attribute [local go_sem] max2_int min2_int max_two min_two max_three min_three max_four min_four   -- for this text's walks alone
set_option linter.unusedVariables false
set_option linter.unusedSimpArgs false

/-! ### impl_BatchText: function 26 -/
def impl_BatchText.l0 : Nat → ByteArray → List (S80) → Int → Int → Option (ByteArray × Bool)
 | 0, _, _, _, _ => none
 | k + 1, x4, x22, x23, x24 => if x24 < x23 then (if 0 ≤ x24 then (if x24 < (x22.length : Int) then ((impl_short.f k ((rd_T80 x22 x24).f0)).bind fun t286 => ((impl_flag.f ((rd_T80 x22 x24).f2)).bind fun t287 => (if t286.size + t287.size ≤ 9223372036854775807 then ((impl_short.f k ((rd_T80 x22 x24).f1)).bind fun t288 => (if (t286 ++ t287).size + t288.size ≤ 9223372036854775807 then (if x4.size + ((t286 ++ t287) ++ t288).size ≤ 9223372036854775807 then (impl_BatchText.l0 k (x4 ++ ((t286 ++ t287) ++ t288)) x22 x23 (wrap64 (x24 + 1))) else (none)) else (none))) else (none)))) else (none)) else (none)) else (some (x4, true))
def impl_BatchText.f (k : Nat) (a0_0 : Int) (l0_1 : List (S80)) : Option (ByteArray × Bool) := (impl_BatchOk.f k a0_0 l0_1).bind fun t278 => (if t278 = true then ((impl_vars.f k (([a0_0, (l0_1.length : Int)] : List Int))).bind fun bt282 => (impl_BatchText.l0 k bt282.1 l0_1 (l0_1.length : Int) 0)) else (some ((⟨#[]⟩ : ByteArray), false)))
theorem impl_BatchText.mono_l : ∀ k, (∀ y0 y1 y2 y3, LeO (impl_BatchText.l0 k y0 y1 y2 y3) (impl_BatchText.l0 (k + 1) y0 y1 y2 y3))
 | 0 => fun _ _ _ _ r h => by simp [impl_BatchText.l0] at h
 | k + 1 => by
  have ih0 := impl_BatchText.mono_l k
  · intro y0 y1 y2 y3
    unfold impl_BatchText.l0
    repeat' first
    | (with_reducible exact ih0 _ _ _ _)
    | (with_reducible exact impl_BatchOk.mono _ _ _)
    | (with_reducible exact impl_short.mono _ _)
    | (with_reducible exact impl_vars.mono _ _)
    | (with_reducible exact LeO.refl _)
    | (with_reducible exact LeO.none _)
    | (with_reducible refine LeO.ite ?_ ?_)
    | (with_reducible refine LeO.bind ?_ (fun _ => ?_))
    | exact ih0 _ _ _ _
    | exact impl_BatchOk.mono _ _ _
    | exact impl_short.mono _ _
    | exact impl_vars.mono _ _
    | exact LeO.none _
    | refine LeO.ite ?_ ?_
    | refine LeO.bind ?_ (fun _ => ?_)
theorem impl_BatchText.mono : ∀ a0 a1 k, LeO (impl_BatchText.f k a0 a1) (impl_BatchText.f (k + 1) a0 a1) := by
 intro a0 a1 k; have ih0 := impl_BatchText.mono_l k
 unfold impl_BatchText.f
 repeat' first
  | (with_reducible exact ih0 _ _ _ _)
  | (with_reducible exact impl_BatchOk.mono _ _ _)
  | (with_reducible exact impl_short.mono _ _)
  | (with_reducible exact impl_vars.mono _ _)
  | (with_reducible exact LeO.refl _)
  | (with_reducible exact LeO.none _)
  | (with_reducible refine LeO.ite ?_ ?_)
  | (with_reducible refine LeO.bind ?_ (fun _ => ?_))
  | exact ih0 _ _ _ _
  | exact impl_BatchOk.mono _ _ _
  | exact impl_short.mono _ _
  | exact impl_vars.mono _ _
  | exact LeO.none _
  | refine LeO.ite ?_ ?_
  | refine LeO.bind ?_ (fun _ => ?_)
def impl_BatchText.T7 : Bool × List (List Nat × List Nat) := (true, [([], []), ([], []), ([1], [1]), ([2], [2]), ([], []), ([4], [4]), ([5, 3], [5]), ([3, 6], [3, 6]), ([], []), ([8], [8]), ([9, 6], [9]), ([7, 10], [7, 10]), ([0, 11], [0, 11]), ([12, 10, 0, 1, 2, 3, 4, 5, 6, 7, 8, 9, 10, 11, 12], [0, 12])])
def impl_BatchText.B7 : List Nat := [0, 0, 2, 6, 0, 16, 62, 126, 0, 256, 894, 2046, 4095, 8191]
theorem impl_BatchText.tab7 : rtab .any (opsOf Try.f26 7) = impl_BatchText.T7 := by kernel_rfl
theorem impl_BatchText.bits7 : waitsOk impl_BatchText.T7.2 impl_BatchText.B7 = true := by kernel_rfl
set_option maxHeartbeats 8000000 in
set_option maxRecDepth 100000 in
theorem impl_BatchText.calls (k : Nat) (a0_0 : Int) (A0_1 : Option Addr) (c0_1 : Nat) (l0_1 : List (S80)) (r1 : ByteArray) (r2 : Bool) (w : World) (hr0_1 : Kd.C k80 w A0_1 l0_1.length l0_1) (hc0_1 : l0_1.length ≤ c0_1) (h : impl_BatchText.f k a0_0 l0_1 = some (r1, r2)) :
 Calls Try.prog 26 #[.agg #[.int .i64 a0_0, .slice A0_1 l0_1.length c0_1]] w fun e w' => e = .returned (.tuple #[.string r1, .bool r2]) ∧ Below w.heap.size w w' := by
 have hu46 := Try.underlying46; have hu80 := Try.underlying80; have HR0_1 := Aside0.mk hr0_1; have HC0_1 := Aside0.mk hc0_1; clear hr0_1 hc0_1; have HB := Aside0.mk (Below.refl w.heap.size w); have H : ((impl_BatchOk.f k a0_0 l0_1).bind fun t278 => (if t278 = true then ((impl_vars.f k (([a0_0, (l0_1.length : Int)] : List Int))).bind fun bt282 => (impl_BatchText.l0 k bt282.1 l0_1 (l0_1.length : Int) 0)) else (some ((⟨#[]⟩ : ByteArray), false)))) = some (r1, r2) := h; clear h; replace H := Option.bind_eq_some_iff.mp H; obtain ⟨t278, A20, H⟩ := H; replace H : (if t278 = true then ((impl_vars.f k (([a0_0, (l0_1.length : Int)] : List Int))).bind fun bt282 => (impl_BatchText.l0 k bt282.1 l0_1 (l0_1.length : Int) 0)) else (some ((⟨#[]⟩ : ByteArray), false))) = some (r1, r2) := H; have A2 := Aside0.mk A20; clear A20; by_cases c3 : t278 = true
 · subst c3; have H1 : ((impl_vars.f k (([a0_0, (l0_1.length : Int)] : List Int))).bind fun bt282 => (impl_BatchText.l0 k bt282.1 l0_1 (l0_1.length : Int) 0)) = some (r1, r2) := by rw [if_pos rfl] at H; exact H
   clear H; have H := H1; clear H1; obtain ⟨y279, hy279⟩ : ∃ y_ : List Int, y_ = (([a0_0, (l0_1.length : Int)] : List Int)) := ⟨_, rfl⟩; replace H : ((impl_vars.f k y279).bind fun bt282 => (impl_BatchText.l0 k bt282.1 l0_1 (l0_1.length : Int) 0)) = some (r1, r2) := by first | (rw [hy279]; with_reducible exact H) | (have H2_ := (Option.bind_some _ _).symm.trans H; rw [hy279]; with_reducible exact H2_) | (have H2_ := (Option.bind_some _ _).symm.trans H; with_reducible exact H2_) | with_reducible exact H | (rw [hy279]; exact H) | exact H
   have Ny279 := Aside0.mk hy279; clear hy279; replace H := Option.bind_eq_some_iff.mp H; obtain ⟨⟨t282, t283⟩, A40, H⟩ := H; replace H : (impl_BatchText.l0 k t282 l0_1 (l0_1.length : Int) 0) = some (r1, r2) := H; have A4 := Aside0.mk A40; clear A40; have H' := Aside0.mk H; clear H; go_enter Try.func26, Try.ntmps26
   go_wp2_with (first | ((with_reducible refine gate_dst (N := 1) rfl ?_); refine boxE (N := 1) (cs := #[.int .i64 a0_0, .slice A0_1 l0_1.length c0_1]) (t := 46) (h := ?_); intro gb277 hg w5 hbox hb; have BK277 := Aside0.mk (hbox); have GW277 := Aside0.mk ((t14_ : w.heap.size ≤ gb277)); have GE277 := GW277; replace HB := bS t1_ hb; clear hb hbox hg; obtain ⟨hcz6_0, hcz6_1, hfz6_0, hfz6_1⟩ := ba2 BK277) | ((with_reducible refine gate_callee (f := 29) rfl ?_); refine goesL_ (some 9) rfl rfl Try.func29 (by kernel_rfl) rfl #[.agg #[.int .i64 a0_0, .slice A0_1 l0_1.length c0_1]] rfl t5_ ?_; (with_reducible refine (impl_BatchOk.calls k a0_0 _ _ l0_1 true _ ?side1 ?side2 A2.out).mono ?_); (case side1 => exact cB HR0_1 HB); (case side2 => exact HC0_1.out); rintro e w7 ⟨rfl, hb⟩; refine ⟨_, rfl, ?_⟩; replace BK277 := bkN BK277 hb; replace HB := bS t31_ hb; (try clear hb); obtain ⟨hcz8_0, hcz8_1, hfz8_0, hfz8_1⟩ := ba2 BK277) | ((with_reducible refine gate_dst (N := 17) rfl ?_); refine Kd.R_lit (Kd.int .i64) _ 3 ?hg (N := 17) ?hd (xs := ([a0_0, (l0_1.length : Int)] : List Int)) (inner := [.int .i64 a0_0, .int .i64 (l0_1.length : Int)]) (ok := fun _ => True) (okp := fun _ => True) ?hr ?hp (fun _ hk => hk) trivial (Below.refl _ _) (Nat.le_refl _) (by simp) ?_; (case hd => rfl); (case hg => rfl); (case hr => first | (go_simp; done) | (go_simp; rfl)); (case hp => exact (Reps.one (show Kd.M (Kd.int .i64) _ _ _ a0_0 [.int .i64 a0_0] from rfl) (Reps.one (show Kd.M (Kd.int .i64) _ _ _ (l0_1.length : Int) [.int .i64 (l0_1.length : Int)] from rfl) (Reps.none _ _)))); intro v280 w9 ho10 hb hg_ hnew_; clear hg_ hnew_; (first | rw [← Ny279.out] at ho10 | (simp only [Int.reduceToNat] at ho10; rw [← Ny279.out] at ho10)); have HO281 := Aside0.mk (Kd.R_lower ho10 (below_size t31_)); replace BK277 := bkN BK277 hb; replace HB := bS t31_ hb; clear hb ho10; obtain ⟨Ao11, co11, eo11⟩ := Kd.R_slice HO281.out; subst eo11) | ((with_reducible refine gate_callee (f := 48) rfl ?_); refine goesL_ (some 18) rfl rfl Try.func48 (by kernel_rfl) rfl #[.slice Ao11 y279.length co11] rfl t5_ ?_; (with_reducible refine (impl_vars.calls k _ _ y279 t282 t283 _ ?side1 ?side2 A4.out).mono ?_); (case side1 => repeat (first | exact (Kd.R_reads' HO281.out).2.2 | (with_reducible refine Kd.C_alloc ?_ _) | (with_reducible refine Kd.C_drewN ?_ _) | (with_reducible refine Kd.C_drew ?_))); (case side2 => exact (Kd.R_reads' HO281.out).2.1); rintro e w12 ⟨rfl, hb⟩; refine ⟨_, rfl, ?_⟩; replace HO281 := Aside0.mk (Kd.R_below (zK HO281) hb); replace BK277 := bkN BK277 hb; replace HB := bS t31_ hb; (try clear hb); obtain ⟨hcz13_0, hcz13_1, hfz13_0, hfz13_1⟩ := ba2 BK277))
   go_loopg [4, 24] k (fun kq v4 v24 w' => ∃ (x4_1 : ByteArray) (x24_1 : Int), v4 = .string x4_1 ∧ v24 = .int .i64 x24_1 ∧ Aside0 (impl_BatchText.l0 kq x4_1 l0_1 (l0_1.length : Int) x24_1 = some (r1, r2)) ∧ Aside0 (kq ≤ k) ∧ Aside0 (w'.heap[gb277]? = some (.cells #[.int .i64 a0_0, (.slice A0_1 l0_1.length c0_1)] 46 (0, 0))) ∧ Aside0 (Below w.heap.size w w'))
   case atStart => exact ⟨(t282), (0), t23_, t23_, H', ⟨Nat.le_refl _⟩, ⟨zN BK277⟩, ⟨t31_⟩⟩
   case round =>
    clear H'
    try clear c2
    try clear p2
    try clear c3
    try clear c4
    try clear hcz13_0
    try clear hcz13_1
    try clear hcz6_0
    try clear hcz6_1
    try clear hcz8_0
    try clear hcz8_1
    try clear hfz13_0
    try clear hfz13_1
    try clear hfz6_0
    try clear hfz6_1
    try clear hfz8_0
    try clear hfz8_1
    obtain ⟨x4_1, x24_1, rfl, rfl, HA, HK1, BK277, HB⟩ := hrel
    cases gk with
    | zero => exact absurd HA.out (by simp [impl_BatchText.l0])
    | succ k1 =>
     have H := HA.out; clear HA; simp only [impl_BatchText.l0] at H; by_cases c14 : x24_1 < (l0_1.length : Int)
     · rw [if_pos c14] at H; have c14b0 : decide (x24_1 < (l0_1.length : Int)) = true := decide_eq_true c14; clear c14; by_cases c15 : 0 ≤ x24_1
       · rw [if_pos c15] at H; have c15b0 : decide (0 ≤ x24_1) = true := decide_eq_true c15; clear c15; by_cases c16 : x24_1 < (l0_1.length : Int)
         · rw [if_pos c16] at H; have c16b0 : decide (x24_1 < (l0_1.length : Int)) = true := decide_eq_true c16; clear c16; replace H := Option.bind_eq_some_iff.mp H; obtain ⟨t286, A170, H⟩ := H; replace H : ((impl_flag.f ((rd_T80 l0_1 x24_1).f2)).bind fun t287 => (if t286.size + t287.size ≤ 9223372036854775807 then ((impl_short.f k1 ((rd_T80 l0_1 x24_1).f1)).bind fun t288 => (if (t286 ++ t287).size + t288.size ≤ 9223372036854775807 then (if x4_1.size + ((t286 ++ t287) ++ t288).size ≤ 9223372036854775807 then (impl_BatchText.l0 k1 (x4_1 ++ ((t286 ++ t287) ++ t288)) l0_1 (l0_1.length : Int) (wrap64 (x24_1 + 1))) else (none)) else (none))) else (none))) = some (r1, r2) := H; have A17 := Aside0.mk A170; clear A170; replace H := Option.bind_eq_some_iff.mp H; obtain ⟨t287, A180, H⟩ := H; replace H : (if t286.size + t287.size ≤ 9223372036854775807 then ((impl_short.f k1 ((rd_T80 l0_1 x24_1).f1)).bind fun t288 => (if (t286 ++ t287).size + t288.size ≤ 9223372036854775807 then (if x4_1.size + ((t286 ++ t287) ++ t288).size ≤ 9223372036854775807 then (impl_BatchText.l0 k1 (x4_1 ++ ((t286 ++ t287) ++ t288)) l0_1 (l0_1.length : Int) (wrap64 (x24_1 + 1))) else (none)) else (none))) else (none)) = some (r1, r2) := H; have A18 := Aside0.mk A180; clear A180; by_cases c19 : t286.size + t287.size ≤ 9223372036854775807
           · rw [if_pos c19] at H; have c19b0 := eq_true c19; have c19b1 : decide (t286.size + t287.size ≤ 9223372036854775807) = true := decide_eq_true c19
             try have c19b2 : (9223372036854775807 < t286.size + t287.size) = False := eq_false (Nat.not_lt.2 c19)
             replace H := Option.bind_eq_some_iff.mp H; obtain ⟨t288, A200, H⟩ := H; replace H : (if (t286 ++ t287).size + t288.size ≤ 9223372036854775807 then (if x4_1.size + ((t286 ++ t287) ++ t288).size ≤ 9223372036854775807 then (impl_BatchText.l0 k1 (x4_1 ++ ((t286 ++ t287) ++ t288)) l0_1 (l0_1.length : Int) (wrap64 (x24_1 + 1))) else (none)) else (none)) = some (r1, r2) := H; have A20 := Aside0.mk A200; clear A200; by_cases c21 : (t286 ++ t287).size + t288.size ≤ 9223372036854775807
             · rw [if_pos c21] at H; have c21b0 := eq_true c21; have c21b1 : decide ((t286 ++ t287).size + t288.size ≤ 9223372036854775807) = true := decide_eq_true c21
               try have c21b2 : (9223372036854775807 < (t286 ++ t287).size + t288.size) = False := eq_false (Nat.not_lt.2 c21)
               try (have c21b3 := c21b2; simp only [ByteArray.size_append] at c21b3)
               by_cases c22 : x4_1.size + ((t286 ++ t287) ++ t288).size ≤ 9223372036854775807
               · rw [if_pos c22] at H; have c22b0 := eq_true c22; have c22b1 : decide (x4_1.size + ((t286 ++ t287) ++ t288).size ≤ 9223372036854775807) = true := decide_eq_true c22
                 try have c22b2 : (9223372036854775807 < x4_1.size + ((t286 ++ t287) ++ t288).size) = False := eq_false (Nat.not_lt.2 c22)
                 try (have c22b3 := c22b2; simp only [ByteArray.size_append] at c22b3)
                 have H' := Aside0.mk H; clear H; have p284 : 0 ≤ (x24_1 : Int) := of_decide_eq_true t9_; have q284 : x24_1 < (l0_1.length : Int) := of_decide_eq_true t9_; obtain ⟨ad284, e284, hx284_0, hx284_1, hx284_2⟩ := at_T80 HR0_1.out x24_1 p284 q284
                 cases e284
                 replace hx284_0 := cW HB hx284_0; replace hx284_1 := cW HB hx284_1; replace hx284_2 := cW HB hx284_2; replace p284 := eq_true p284; replace q284 := eq_true q284
                 try go_wp2_with (first | ((with_reducible refine gate_dst (N := 7) rfl ?_); refine boxE (N := 7) (cs := #[.string (⟨#[]⟩ : ByteArray), .string (⟨#[]⟩ : ByteArray), .bool false]) (t := 80) (h := ?_); intro gb285 hg w23 hbox hb; have BK285 := Aside0.mk (hbox); have GW285 := Aside0.mk ((by rw [hg]; exact (below_size t31_) : w.heap.size ≤ gb285)); have GE285 := Aside0.mk ((by rw [hg]; exact (below_size t31_) : w.heap.size ≤ gb285)); replace HB := bS t31_ hb; have NB277_285 := nbL BK277 hg; have NB285_277 := nbG BK277 hg; replace BK277 := bkN BK277 hb; clear hb hbox hg; have hnb24 := NB285_277.out; have hnc24 := NB277_285.out; obtain ⟨hcz25_0, hcz25_1, hcz25_2, hfz25_0, hfz25_1, hfz25_2⟩ := ba3 BK285))
                 have n0_ : Aside0 ((((w23.setCell ⟨gb285, 0, none⟩ (.string ((rd_T80 l0_1 x24_1).f0))).setCell ⟨gb285, 1, none⟩ (.string ((rd_T80 l0_1 x24_1).f1))).setCell ⟨gb285, 2, none⟩ (.bool ((rd_T80 l0_1 x24_1).f2))).heap[gb277]? = some (.cells #[.int .i64 a0_0, .slice (some ad284) l0_1.length c0_1] 46 (0, 0))) := ⟨zF3 BK277 NB277_285 NB277_285 NB277_285⟩; have n1_ : Aside0 ((((w23.setCell ⟨gb285, 0, none⟩ (.string ((rd_T80 l0_1 x24_1).f0))).setCell ⟨gb285, 1, none⟩ (.string ((rd_T80 l0_1 x24_1).f1))).setCell ⟨gb285, 2, none⟩ (.bool ((rd_T80 l0_1 x24_1).f2))).heap[gb285]? = some (.cells #[.string ((rd_T80 l0_1 x24_1).f0), .string ((rd_T80 l0_1 x24_1).f1), .bool ((rd_T80 l0_1 x24_1).f2)] 80 (0, 0))) := ⟨zQ3 BK285⟩; have n2_ : Aside0 (Below w.heap.size w (((w23.setCell ⟨gb285, 0, none⟩ (.string ((rd_T80 l0_1 x24_1).f0))).setCell ⟨gb285, 1, none⟩ (.string ((rd_T80 l0_1 x24_1).f1))).setCell ⟨gb285, 2, none⟩ (.bool ((rd_T80 l0_1 x24_1).f2)))) := ⟨t48_⟩
                 (try clear BK277)
                 (try clear BK285)
                 (try clear HB)
                 generalize (((w23.setCell ⟨gb285, 0, none⟩ (.string ((rd_T80 l0_1 x24_1).f0))).setCell ⟨gb285, 1, none⟩ (.string ((rd_T80 l0_1 x24_1).f1))).setCell ⟨gb285, 2, none⟩ (.bool ((rd_T80 l0_1 x24_1).f2))) = w26 at n0_ n1_ n2_ ⊢; have BK277 := n0_; have BK285 := n1_; have HB := n2_; clear n0_ n1_ n2_; replace BK277 := Aside0.mk (blk_drew BK277.out); replace BK285 := Aside0.mk (blk_drew BK285.out); replace HB := Aside0.mk (below_drew1 HB.out); refine start_ (n := 14) (S := fun w' => w'.cell? ⟨gb285, 0, none⟩ = some (.string ((rd_T80 l0_1 x24_1).f0)) ∧ w'.cell? ⟨gb285, 1, none⟩ = some (.string ((rd_T80 l0_1 x24_1).f1)) ∧ w'.cell? ⟨gb285, 2, none⟩ = some (.bool ((rd_T80 l0_1 x24_1).f2))) (ds := []) #[false, false, false, false, false, false, false, false, false, false, false, false, false, false] (by kernel_rfl) rfl rfl ⟨bc0 BK285, bc1 BK285, bc2 BK285⟩ (fun hHeld => ?_); refine with_tabW impl_BatchText.tab7 impl_BatchText.bits7 (fun HT_ HW_ => ?_)
                 generalize w26.drew = w27 at BK277 BK285 HB hHeld ⊢; refine pure_ (i := 0) (N := some 28) (v := ?_) (a' := ?_) #[true, false, false, false, false, false, false, false, false, false, false, false, false, false] rfl rfl (any_of HT_.out (by kernel_rfl)) (fun _ _ _ h => h) (Or.inl ⟨by rfl, ?_⟩) ?_ ?_
                 rotate_left
                 · intro w'; go_simp; with_reducible rfl
                 rotate_left
                 · simp only [Act.put, ps1, ps2, ps3, i64_w, i32_w]; rfl
                 refine pure_ (i := 1) (N := some 29) (v := ?_) (a' := ?_) #[true, true, false, false, false, false, false, false, false, false, false, false, false, false] rfl rfl (any_of HT_.out (by kernel_rfl)) (fun _ _ _ h => h) (Or.inl ⟨by rfl, ?_⟩) ?_ ?_
                 rotate_left
                 · intro w'; go_simp; with_reducible rfl
                 rotate_left
                 · simp only [Act.put, ps1, ps2, ps3, i64_w, i32_w]; rfl
                 refine pure_ (i := 4) (N := some 32) (v := ?_) (a' := ?_) #[true, true, false, false, true, false, false, false, false, false, false, false, false, false] rfl rfl (any_of HT_.out (by kernel_rfl)) (fun _ _ _ h => h) (Or.inl ⟨by rfl, ?_⟩) ?_ ?_
                 rotate_left
                 · intro w'; go_simp; with_reducible rfl
                 rotate_left
                 · simp only [Act.put, ps1, ps2, ps3, i64_w, i32_w]; rfl
                 refine pure_ (i := 8) (N := some 36) (v := ?_) (a' := ?_) #[true, true, false, false, true, false, false, false, true, false, false, false, false, false] rfl rfl (any_of HT_.out (by kernel_rfl)) (fun _ _ _ h => h) (Or.inl ⟨by rfl, ?_⟩) ?_ ?_
                 rotate_left
                 · intro w'; go_simp; with_reducible rfl
                 rotate_left
                 · simp only [Act.put, ps1, ps2, ps3, i64_w, i32_w]; rfl
                 refine take_ (i := 2) (N := some 30) (v := ?_) (a' := ?_) #[true, true, true, false, true, false, false, false, true, false, false, false, false, false] rfl rfl (take_ofW HT_.out HW_.out (by kernel_rfl)) (fun _ _ _ h => h) (Or.inl ⟨by rfl, ?_⟩) hHeld ?_ ?_
                 rotate_left
                 · rintro w' ⟨s0, s1, s2⟩; go_simp; with_reducible rfl
                 rotate_left
                 · simp only [Act.put, ps1, ps2, ps3, i64_w, i32_w]; rfl
                 refine take_ (i := 5) (N := some 33) (v := ?_) (a' := ?_) #[true, true, true, false, true, true, false, false, true, false, false, false, false, false] rfl rfl (take_ofW HT_.out HW_.out (by kernel_rfl)) (fun _ _ _ h => h) (Or.inl ⟨by rfl, ?_⟩) hHeld ?_ ?_
                 rotate_left
                 · rintro w' ⟨s0, s1, s2⟩; go_simp; with_reducible rfl
                 rotate_left
                 · simp only [Act.put, ps1, ps2, ps3, i64_w, i32_w]; rfl
                 refine take_ (i := 9) (N := some 37) (v := ?_) (a' := ?_) #[true, true, true, false, true, true, false, false, true, true, false, false, false, false] rfl rfl (take_ofW HT_.out HW_.out (by kernel_rfl)) (fun _ _ _ h => h) (Or.inl ⟨by rfl, ?_⟩) hHeld ?_ ?_
                 rotate_left
                 · rintro w' ⟨s0, s1, s2⟩; go_simp; with_reducible rfl
                 rotate_left
                 · simp only [Act.put, ps1, ps2, ps3, i64_w, i32_w]; rfl
                 refine one_ (i := 3) (N := some 31) #[true, true, true, true, true, true, false, false, true, true, false, false, false, false] rfl rfl (one_of HT_.out (by kernel_rfl)) (by decide) (fun K hK => ?_)
                 refine goes_ Try.func61 (by kernel_rfl) rfl #[.string ((rd_T80 l0_1 x24_1).f0)] (by rfl) rfl rfl t5_ ?_
                 with_reducible refine (impl_short.calls k1 ((rd_T80 l0_1 x24_1).f0) t286 _ A17.out).mono ?_
                 rintro e w28 ⟨rfl, hb⟩; refine ⟨_, rfl, ?_⟩
                 replace BK277 := bkN BK277 hb; replace BK285 := bkN BK285 hb; replace HB := bS t48_ hb
                 (try clear hb)
                 (try clear hb2)
                 (try clear hk)
                 (try clear hi)
                 refine hK.out _ _ ⟨bc0 BK285, bc1 BK285, bc2 BK285⟩ (fun hHeld => ?_)
                 clear hK K; refine norm_ (a' := ?_) ?_ ?_
                 rotate_left
                 · show Act.put _ (some 31) _ = _
                   simp only [Act.put, ps1, ps2, ps3, i64_w, i32_w]; rfl
                 refine one_ (i := 6) (N := some 34) #[true, true, true, true, true, true, true, false, true, true, false, false, false, false] rfl rfl (one_of HT_.out (by kernel_rfl)) (by decide) (fun K hK => ?_)
                 refine goes_ Try.func62 (by kernel_rfl) rfl #[.bool ((rd_T80 l0_1 x24_1).f2)] (by rfl) rfl rfl t5_ ?_
                 with_reducible refine (impl_flag.calls ((rd_T80 l0_1 x24_1).f2) t287 _ A18.out).mono ?_
                 rintro e w' ⟨rfl, ⟨nd, rfl⟩⟩; refine ⟨_, rfl, ?_⟩
                 refine hK.out _ _ ⟨bc0 BK285, bc1 BK285, bc2 BK285⟩ (fun hHeld => ?_)
                 clear hK K; refine norm_ (a' := ?_) ?_ ?_
                 rotate_left
                 · show Act.put _ (some 34) _ = _
                   simp only [Act.put, ps1, ps2, ps3, i64_w, i32_w]; rfl
                 refine pure_ (i := 7) (N := some 35) (v := ?_) (a' := ?_) #[true, true, true, true, true, true, true, true, true, true, false, false, false, false] rfl rfl (any_of HT_.out (by kernel_rfl)) (fun _ _ _ h => h) (Or.inl ⟨by rfl, ?_⟩) ?_ ?_
                 rotate_left
                 · intro w'; go_simp; with_reducible rfl
                 rotate_left
                 · simp only [Act.put, ps1, ps2, ps3, i64_w, i32_w]; rfl
                 refine one_ (i := 10) (N := some 38) #[true, true, true, true, true, true, true, true, true, true, true, false, false, false] rfl rfl (one_of HT_.out (by kernel_rfl)) (by decide) (fun K hK => ?_)
                 refine goes_ Try.func61 (by kernel_rfl) rfl #[.string ((rd_T80 l0_1 x24_1).f1)] (by rfl) rfl rfl t5_ ?_
                 with_reducible refine (impl_short.calls k1 ((rd_T80 l0_1 x24_1).f1) t288 _ A20.out).mono ?_
                 rintro e w29 ⟨rfl, hb⟩; refine ⟨_, rfl, ?_⟩
                 replace BK277 := bkN BK277 hb; replace BK285 := bkN BK285 hb; replace HB := bS t48_ hb
                 (try clear hb)
                 (try clear hb2)
                 (try clear hk)
                 (try clear hi)
                 refine hK.out _ _ ⟨bc0 BK285, bc1 BK285, bc2 BK285⟩ (fun hHeld => ?_)
                 clear hK K; refine norm_ (a' := ?_) ?_ ?_
                 rotate_left
                 · show Act.put _ (some 38) _ = _
                   simp only [Act.put, ps1, ps2, ps3, i64_w, i32_w]; rfl
                 refine pure_ (i := 11) (N := some 39) (v := ?_) (a' := ?_) #[true, true, true, true, true, true, true, true, true, true, true, true, false, false] rfl rfl (any_of HT_.out (by kernel_rfl)) (fun _ _ _ h => h) (Or.inl ⟨by rfl, ?_⟩) ?_ ?_
                 rotate_left
                 · intro w'; go_simp; with_reducible rfl
                 rotate_left
                 · simp only [Act.put, ps1, ps2, ps3, i64_w, i32_w]; rfl
                 refine pure_ (i := 12) (N := some 40) (v := ?_) (a' := ?_) #[true, true, true, true, true, true, true, true, true, true, true, true, true, false] rfl rfl (any_of HT_.out (by kernel_rfl)) (fun _ _ _ h => h) (Or.inl ⟨by rfl, ?_⟩) ?_ ?_
                 rotate_left
                 · intro w'; go_simp; with_reducible rfl
                 rotate_left
                 · simp only [Act.put, ps1, ps2, ps3, i64_w, i32_w]; rfl
                 refine pure_ (i := 13) (N := some 4) (v := ?_) (a' := ?_) #[true, true, true, true, true, true, true, true, true, true, true, true, true, true] rfl rfl (any_of HT_.out (by kernel_rfl)) (fun _ _ _ h => h) (Or.inl ⟨by rfl, ?_⟩) ?_ ?_
                 rotate_left
                 · intro w'; go_simp; with_reducible rfl
                 rotate_left
                 · simp only [Act.put, ps1, ps2, ps3, i64_w, i32_w]; rfl
                 refine done_ (done_of HT_.out (by kernel_rfl)) ?_
                 try go_wp2
                 go_roundg k1
                 case measure => have := HK1.out; omega
                 case rel => exact ⟨(x4_1 ++ ((t286 ++ t287) ++ t288)), (wrap64 (x24_1 + 1)), t23_, t23_, H', ⟨by have := HK1.out; omega⟩, ⟨zN BK277⟩, ⟨t48_⟩⟩
               · rw [if_neg c22] at H; exact absurd H (by simp)
             · rw [if_neg c21] at H; exact absurd H (by simp)
           · rw [if_neg c19] at H; exact absurd H (by simp)
         · rw [if_neg c16] at H; exact absurd H (by simp)
       · rw [if_neg c15] at H; exact absurd H (by simp)
     · rw [if_neg c14] at H; have c14b0 : decide (x24_1 < (l0_1.length : Int)) = false := decide_eq_false c14; clear c14; simp only [Option.some.injEq, Prod.mk.injEq] at H; obtain ⟨rfl, rfl⟩ := H; go_wp2
       go_ret2
       exact ⟨by first | rfl | (simp [errW_none, errW_some] <;> rfl) | (simp [*, errW_none, errW_some] <;> rfl), t31_⟩
 · replace c3 := Bool.eq_false_iff.mpr c3; subst c3; have H1 : (some ((⟨#[]⟩ : ByteArray), false)) = some (r1, r2) := by rw [if_neg (show ¬ (false = true) by decide)] at H; exact H
   clear H; have H := H1; clear H1; simp only [Option.some.injEq, Prod.mk.injEq] at H; obtain ⟨rfl, rfl⟩ := H; go_enter Try.func26, Try.ntmps26
   go_wp2_with (first | ((with_reducible refine gate_dst (N := 1) rfl ?_); refine boxE (N := 1) (cs := #[.int .i64 a0_0, .slice A0_1 l0_1.length c0_1]) (t := 46) (h := ?_); intro gb277 hg w30 hbox hb; have BK277 := Aside0.mk (hbox); have GW277 := Aside0.mk ((t14_ : w.heap.size ≤ gb277)); have GE277 := GW277; replace HB := bS t1_ hb; clear hb hbox hg; obtain ⟨hcz31_0, hcz31_1, hfz31_0, hfz31_1⟩ := ba2 BK277) | ((with_reducible refine gate_callee (f := 29) rfl ?_); refine goesL_ (some 9) rfl rfl Try.func29 (by kernel_rfl) rfl #[.agg #[.int .i64 a0_0, .slice A0_1 l0_1.length c0_1]] rfl t5_ ?_; (with_reducible refine (impl_BatchOk.calls k a0_0 _ _ l0_1 false _ ?side1 ?side2 A2.out).mono ?_); (case side1 => exact cB HR0_1 HB); (case side2 => exact HC0_1.out); rintro e w32 ⟨rfl, hb⟩; refine ⟨_, rfl, ?_⟩; replace BK277 := bkN BK277 hb; replace HB := bS t31_ hb; (try clear hb)))
   go_ret2
   exact ⟨by first | rfl | (simp [errW_none, errW_some] <;> rfl) | (simp [*, errW_none, errW_some] <;> rfl), t31_⟩

/-! ### impl_ReadVar: function 88 -/
mutual
def impl_ReadVar.l0 : Nat → ByteArray → Int → Int → Int → Option (Int × Int × Bool)
 | 0, _, _, _, _ => none
 | k + 1, x0, x1, x7, x8 => if x8 < 5 then (impl_ReadVar.j1 k x0 x1 x7 x8 (decide ((wrap64 (x1 + x8)) < (x0.size : Int)))) else (impl_ReadVar.j1 k x0 x1 x7 x8 false)
def impl_ReadVar.j1 : Nat → ByteArray → Int → Int → Int → Bool → Option (Int × Int × Bool)
 | 0, _, _, _, _, _ => none
 | k + 1, x0, x1, x7, x8, x26 => if x26 = true then (if 0 ≤ (wrap64 (x1 + x8)) then (if (wrap64 (x1 + x8)) < (x0.size : Int) then (if 0 ≤ (wrap64 (7 * x8)) then (if (wrap64 (bt x0 (wrap64 (x1 + x8)))) < 128 then ((impl_VarText.f k (wrap64 (x7 + (shl .i64 (Int.tmod (wrap64 (bt x0 (wrap64 (x1 + x8)))) 128) (wrap64 (7 * x8)))))).bind fun bt290 => (if bt290.2 = true then (if (bt290.1.size : Int) = (wrap64 (x8 + 1)) then (some (wrap64 (x7 + (shl .i64 (Int.tmod (wrap64 (bt x0 (wrap64 (x1 + x8)))) 128) (wrap64 (7 * x8)))), wrap64 ((wrap64 (x1 + x8)) + 1), true)) else (some (0, 0, false))) else (some (0, 0, false)))) else (impl_ReadVar.l0 k x0 x1 (wrap64 (x7 + (shl .i64 (Int.tmod (wrap64 (bt x0 (wrap64 (x1 + x8)))) 128) (wrap64 (7 * x8))))) (wrap64 (x8 + 1)))) else (none)) else (none)) else (none)) else (some (0, 0, false))
end
def impl_ReadVar.f (k : Nat) (a0 : ByteArray) (a1 : Int) : Option (Int × Int × Bool) := (impl_within.f a1 0 (a0.size : Int)).bind fun t289 => (if t289 = true then (impl_ReadVar.l0 k a0 a1 0 0) else (some (0, 0, false)))
theorem impl_ReadVar.mono_l : ∀ k, (∀ y0 y1 y2 y3, LeO (impl_ReadVar.l0 k y0 y1 y2 y3) (impl_ReadVar.l0 (k + 1) y0 y1 y2 y3)) ∧ (∀ y0 y1 y2 y3 y4, LeO (impl_ReadVar.j1 k y0 y1 y2 y3 y4) (impl_ReadVar.j1 (k + 1) y0 y1 y2 y3 y4))
 | 0 => ⟨fun _ _ _ _ r h => by simp [impl_ReadVar.l0] at h, fun _ _ _ _ _ r h => by simp [impl_ReadVar.j1] at h⟩
 | k + 1 => by
  obtain ⟨ih0, ih1⟩ := impl_ReadVar.mono_l k; refine ⟨?_, ?_⟩
  · intro y0 y1 y2 y3
    unfold impl_ReadVar.l0
    repeat' first
    | (with_reducible exact ih0 _ _ _ _)
    | (with_reducible exact ih1 _ _ _ _ _)
    | (with_reducible exact impl_VarText.mono _ _)
    | (with_reducible exact LeO.refl _)
    | (with_reducible exact LeO.none _)
    | (with_reducible refine LeO.ite ?_ ?_)
    | (with_reducible refine LeO.bind ?_ (fun _ => ?_))
    | exact ih0 _ _ _ _
    | exact ih1 _ _ _ _ _
    | exact impl_VarText.mono _ _
    | exact LeO.none _
    | refine LeO.ite ?_ ?_
    | refine LeO.bind ?_ (fun _ => ?_)
  · intro y0 y1 y2 y3 y4
    unfold impl_ReadVar.j1
    repeat' first
    | (with_reducible exact ih0 _ _ _ _)
    | (with_reducible exact ih1 _ _ _ _ _)
    | (with_reducible exact impl_VarText.mono _ _)
    | (with_reducible exact LeO.refl _)
    | (with_reducible exact LeO.none _)
    | (with_reducible refine LeO.ite ?_ ?_)
    | (with_reducible refine LeO.bind ?_ (fun _ => ?_))
    | exact ih0 _ _ _ _
    | exact ih1 _ _ _ _ _
    | exact impl_VarText.mono _ _
    | exact LeO.none _
    | refine LeO.ite ?_ ?_
    | refine LeO.bind ?_ (fun _ => ?_)
theorem impl_ReadVar.mono : ∀ a0 a1 k, LeO (impl_ReadVar.f k a0 a1) (impl_ReadVar.f (k + 1) a0 a1) := by
 intro a0 a1 k; obtain ⟨ih0, ih1⟩ := impl_ReadVar.mono_l k
 unfold impl_ReadVar.f
 repeat' first
  | (with_reducible exact ih0 _ _ _ _)
  | (with_reducible exact ih1 _ _ _ _ _)
  | (with_reducible exact impl_VarText.mono _ _)
  | (with_reducible exact LeO.refl _)
  | (with_reducible exact LeO.none _)
  | (with_reducible refine LeO.ite ?_ ?_)
  | (with_reducible refine LeO.bind ?_ (fun _ => ?_))
  | exact ih0 _ _ _ _
  | exact ih1 _ _ _ _ _
  | exact impl_VarText.mono _ _
  | exact LeO.none _
  | refine LeO.ite ?_ ?_
  | refine LeO.bind ?_ (fun _ => ?_)
set_option maxHeartbeats 8000000 in
set_option maxRecDepth 100000 in
theorem impl_ReadVar.calls (k : Nat) (a0 : ByteArray) (a1 : Int) (r1 : Int) (r2 : Int) (r3 : Bool) (w : World) (h : impl_ReadVar.f k a0 a1 = some (r1, r2, r3)) :
 Calls Try.prog 88 #[.string a0, .int .i64 a1] w fun e w' => e = .returned (.tuple #[.int .i64 r1, .int .i64 r2, .bool r3]) ∧ Below w.heap.size w w' := by
 have HB := Aside0.mk (Below.refl w.heap.size w); have H : ((impl_within.f a1 0 (a0.size : Int)).bind fun t289 => (if t289 = true then (impl_ReadVar.l0 k a0 a1 0 0) else (some (0, 0, false)))) = some (r1, r2, r3) := h; clear h; replace H := Option.bind_eq_some_iff.mp H; obtain ⟨t289, A30, H⟩ := H; replace H : (if t289 = true then (impl_ReadVar.l0 k a0 a1 0 0) else (some (0, 0, false))) = some (r1, r2, r3) := H; have A3 := Aside0.mk A30; clear A30; by_cases c4 : t289 = true
 · subst c4; have H1 : (impl_ReadVar.l0 k a0 a1 0 0) = some (r1, r2, r3) := by rw [if_pos rfl] at H; exact H
   clear H; have H := H1; clear H1; have H' := Aside0.mk H; clear H; go_enter Try.func88, Try.ntmps88
   go_wp2_with (first | ((with_reducible refine gate_callee (f := 68) rfl ?_); refine goesL_ (some 15) rfl rfl Try.func68 (by kernel_rfl) rfl #[.int .i64 a1, .int .i64 0, .int .i64 (a0.size : Int)] rfl t5_ ?_; (with_reducible refine (impl_within.calls a1 0 (a0.size : Int) true _ A3.out).mono ?_); rintro e w' ⟨rfl, ⟨nd, rfl⟩⟩; refine ⟨_, rfl, ?_⟩))
   go_loopg [7, 8] k (fun kq v7 v8 w' => ∃ (x7_1 : Int) (x8_1 : Int), v7 = .int .i64 x7_1 ∧ v8 = .int .i64 x8_1 ∧ Aside0 (impl_ReadVar.l0 kq a0 a1 x7_1 x8_1 = some (r1, r2, r3)) ∧ Aside0 (kq ≤ k) ∧ Aside0 (Below w.heap.size w w'))
   case atStart => exact ⟨(0), (0), t23_, t23_, H', ⟨Nat.le_refl _⟩, ⟨t1_⟩⟩
   case round =>
    clear H'
    try clear p2
    try clear c4
    obtain ⟨x7_1, x8_1, rfl, rfl, HA, HK1, HB⟩ := hrel
    cases gk with
    | zero => exact absurd HA.out (by simp [impl_ReadVar.l0])
    | succ k1 =>
     have H := HA.out; clear HA; simp only [impl_ReadVar.l0] at H; have HC5 := Aside0.mk H; clear H
     go_upto_region 5 with (fail)
     go_cut [26] (fun v26 wc => ∃ (kq : Nat) (x26_4 : Bool), v26 = .bool x26_4 ∧ Aside0 (impl_ReadVar.j1 kq a0 a1 x7_1 x8_1 x26_4 = some (r1, r2, r3)) ∧ Aside0 (kq ≤ k1) ∧ Aside0 (Below w.heap.size w wc))
     case first =>
      have H := HC5.out; clear HC5; by_cases c6 : x8_1 < 5
      · rw [if_pos c6] at H; have c6b0 : decide (x8_1 < 5) = true := decide_eq_true c6; clear c6
        (first | rw [c6b0] | (simp only [i64_w, i32_w]; rw [c6b0]) | skip)
        have H' := Aside0.mk H; clear H; go_wp2; go_meet
        case rel => exact ⟨_, (decide ((wrap64 (a1 + x8_1)) < (a0.size : Int))), t23_, H', ⟨by have := HK1.out; first | omega | exact Nat.le_refl _⟩, ⟨t1_⟩⟩
      · rw [if_neg c6] at H; have c6b0 : decide (x8_1 < 5) = false := decide_eq_false c6; clear c6
        (first | rw [c6b0] | (simp only [i64_w, i32_w]; rw [c6b0]) | skip)
        have H' := Aside0.mk H; clear H; go_wp2; go_meet
        case rel => exact ⟨_, (false), t23_, H', ⟨by have := HK1.out; first | omega | exact Nat.le_refl _⟩, ⟨t1_⟩⟩
     case rest =>
      clear HC5
      try clear p2
      try clear c4
      try clear c6
      try clear c6b0
      try clear p6
      try clear p2
      obtain ⟨kq, x26_4, rfl, HA, HJ4, HB⟩ := hcut
      cases kq with
      | zero => exact absurd HA.out (by simp [impl_ReadVar.j1])
      | succ kj4 =>
       have H := HA.out; clear HA; simp only [impl_ReadVar.j1] at H; by_cases c7 : x26_4 = true
       · subst c7; have H1 : (if 0 ≤ (wrap64 (a1 + x8_1)) then (if (wrap64 (a1 + x8_1)) < (a0.size : Int) then (if 0 ≤ (wrap64 (7 * x8_1)) then (if (wrap64 (bt a0 (wrap64 (a1 + x8_1)))) < 128 then ((impl_VarText.f kj4 (wrap64 (x7_1 + (shl .i64 (Int.tmod (wrap64 (bt a0 (wrap64 (a1 + x8_1)))) 128) (wrap64 (7 * x8_1)))))).bind fun bt290 => (if bt290.2 = true then (if (bt290.1.size : Int) = (wrap64 (x8_1 + 1)) then (some (wrap64 (x7_1 + (shl .i64 (Int.tmod (wrap64 (bt a0 (wrap64 (a1 + x8_1)))) 128) (wrap64 (7 * x8_1)))), wrap64 ((wrap64 (a1 + x8_1)) + 1), true)) else (some (0, 0, false))) else (some (0, 0, false)))) else (impl_ReadVar.l0 kj4 a0 a1 (wrap64 (x7_1 + (shl .i64 (Int.tmod (wrap64 (bt a0 (wrap64 (a1 + x8_1)))) 128) (wrap64 (7 * x8_1))))) (wrap64 (x8_1 + 1)))) else (none)) else (none)) else (none)) = some (r1, r2, r3) := by rw [if_pos rfl] at H; exact H
         clear H; have H := H1; clear H1; obtain ⟨ji8, hji8⟩ : ∃ j_ : Int, (wrap64 (a1 + x8_1)) = j_ := ⟨_, rfl⟩; replace H : (if 0 ≤ (ji8) then (if (ji8) < (a0.size : Int) then (if 0 ≤ (wrap64 (7 * x8_1)) then (if (wrap64 (bt a0 (ji8))) < 128 then ((impl_VarText.f kj4 (wrap64 (x7_1 + (shl .i64 (Int.tmod (wrap64 (bt a0 (ji8))) 128) (wrap64 (7 * x8_1)))))).bind fun bt290 => (if bt290.2 = true then (if (bt290.1.size : Int) = (wrap64 (x8_1 + 1)) then (some (wrap64 (x7_1 + (shl .i64 (Int.tmod (wrap64 (bt a0 (ji8))) 128) (wrap64 (7 * x8_1)))), wrap64 ((ji8) + 1), true)) else (some (0, 0, false))) else (some (0, 0, false)))) else (impl_ReadVar.l0 kj4 a0 a1 (wrap64 (x7_1 + (shl .i64 (Int.tmod (wrap64 (bt a0 (ji8))) 128) (wrap64 (7 * x8_1))))) (wrap64 (x8_1 + 1)))) else (none)) else (none)) else (none)) = some (r1, r2, r3) := by first | (rw [hji8] at H; exact H) | (simp only [hji8] at H ⊢; exact H)
         have hji8w : (IntKind.i64.wrap (a1 + x8_1)) = ji8 := (i64_w _).trans hji8; by_cases c9 : 0 ≤ (ji8)
         · rw [if_pos c9] at H; have c9b0 : decide (0 ≤ (ji8)) = true := decide_eq_true c9; clear c9; by_cases c10 : (ji8) < (a0.size : Int)
           · rw [if_pos c10] at H; have c10b0 : decide ((ji8) < (a0.size : Int)) = true := decide_eq_true c10; clear c10; obtain ⟨ji12, hji12⟩ : ∃ j_ : Int, (wrap64 (7 * x8_1)) = j_ := ⟨_, rfl⟩; replace H : (if 0 ≤ (ji12) then (if (wrap64 (bt a0 (ji8))) < 128 then ((impl_VarText.f kj4 (wrap64 (x7_1 + (shl .i64 (Int.tmod (wrap64 (bt a0 (ji8))) 128) (ji12))))).bind fun bt290 => (if bt290.2 = true then (if (bt290.1.size : Int) = (wrap64 (x8_1 + 1)) then (some (wrap64 (x7_1 + (shl .i64 (Int.tmod (wrap64 (bt a0 (ji8))) 128) (ji12))), wrap64 ((ji8) + 1), true)) else (some (0, 0, false))) else (some (0, 0, false)))) else (impl_ReadVar.l0 kj4 a0 a1 (wrap64 (x7_1 + (shl .i64 (Int.tmod (wrap64 (bt a0 (ji8))) 128) (ji12)))) (wrap64 (x8_1 + 1)))) else (none)) = some (r1, r2, r3) := by first | (rw [hji12] at H; exact H) | (simp only [hji12] at H ⊢; exact H)
             have hji12w : (IntKind.i64.wrap (7 * x8_1)) = ji12 := (i64_w _).trans hji12; by_cases c13 : 0 ≤ (ji12)
             · rw [if_pos c13] at H; have c13b0 := eq_true c13; have c13b1 : decide (0 ≤ (ji12)) = true := decide_eq_true c13; clear c13; obtain ⟨ji14, hji14⟩ : ∃ j_ : Int, (shl .i64 (Int.tmod (wrap64 (bt a0 (ji8))) 128) (ji12)) = j_ := ⟨_, rfl⟩; replace H : (if (wrap64 (bt a0 (ji8))) < 128 then ((impl_VarText.f kj4 (wrap64 (x7_1 + (ji14)))).bind fun bt290 => (if bt290.2 = true then (if (bt290.1.size : Int) = (wrap64 (x8_1 + 1)) then (some (wrap64 (x7_1 + (ji14)), wrap64 ((ji8) + 1), true)) else (some (0, 0, false))) else (some (0, 0, false)))) else (impl_ReadVar.l0 kj4 a0 a1 (wrap64 (x7_1 + (ji14))) (wrap64 (x8_1 + 1)))) = some (r1, r2, r3) := by first | (rw [hji14] at H; exact H) | (simp only [hji14] at H ⊢; exact H)
               have hji14_ : (IntKind.i64.wrap ((Int.tmod (wrap64 (bt a0 (ji8))) 128) * 2 ^ min (ji12).toNat 64)) = ji14 := hji14; have hji14z : (ji12) ≤ 64 → (IntKind.i64.wrap ((Int.tmod (wrap64 (bt a0 (ji8))) 128) * 2 ^ (ji12).toNat)) = ji14 := shl_small hji14; have hji14y : (wrap64 ((Int.tmod (wrap64 (bt a0 (ji8))) 128) * 2 ^ min (ji12).toNat 64)) = ji14 := (i64_w _).symm.trans hji14_; have hji14x : (ji12) ≤ 64 → (wrap64 ((Int.tmod (wrap64 (bt a0 (ji8))) 128) * 2 ^ (ji12).toNat)) = ji14 := fun h_ => (i64_w _).symm.trans (hji14z h_)
               by_cases c15 : (wrap64 (bt a0 (ji8))) < 128
               · rw [if_pos c15] at H; have c15b0 : decide ((wrap64 (bt a0 (ji8))) < 128) = true := decide_eq_true c15; clear c15; replace H := Option.bind_eq_some_iff.mp H; obtain ⟨⟨t290, t291⟩, A160, H⟩ := H; replace H : (if t291 = true then (if (t290.size : Int) = (wrap64 (x8_1 + 1)) then (some (wrap64 (x7_1 + (ji14)), wrap64 ((ji8) + 1), true)) else (some (0, 0, false))) else (some (0, 0, false))) = some (r1, r2, r3) := H; have A16 := Aside0.mk A160; clear A160; by_cases c17 : t291 = true
                 · subst c17; have H1 : (if (t290.size : Int) = (wrap64 (x8_1 + 1)) then (some (wrap64 (x7_1 + (ji14)), wrap64 ((ji8) + 1), true)) else (some (0, 0, false))) = some (r1, r2, r3) := by rw [if_pos rfl] at H; exact H
                   clear H; have H := H1; clear H1; by_cases c18 : (t290.size : Int) = (wrap64 (x8_1 + 1))
                   · rw [if_pos c18] at H; have c18b0 : ((t290.size : Int) == (wrap64 (x8_1 + 1))) = true := beq_iff_eq.mpr c18; have c18b1 : ((t290.size : Int) != (wrap64 (x8_1 + 1))) = false := bne_eq_false_iff_eq.mpr c18; clear c18; simp only [Option.some.injEq, Prod.mk.injEq] at H; obtain ⟨rfl, rfl, rfl⟩ := H; have p11 : 0 ≤ ((ji8) : Int) := of_decide_eq_true t9_; have q11 : (ji8) < (a0.size : Int) := of_decide_eq_true t9_; have hx11 := bt_at a0 (ji8); replace p11 := eq_true p11; replace q11 := eq_true q11
                     go_wp2_with (first | ((with_reducible refine gate_callee (f := 83) rfl ?_); refine goesL_ (some 46) rfl rfl Try.func83 (by kernel_rfl) rfl #[.int .i64 (wrap64 (x7_1 + (ji14)))] rfl (by (try simp only [List.map_toArray, List.map_cons, List.map_nil]); first | done | (simp only [hji14]; rfl) | rfl | (simp only [List.length_drop, List.length_take]; rfl)) ?_; (with_reducible refine (impl_VarText.calls kj4 (wrap64 (x7_1 + (ji14))) t290 true _ A16.out).mono ?_); rintro e w19 ⟨rfl, hb⟩; refine ⟨_, rfl, ?_⟩; replace HB := bS t1_ hb; (try clear hb)))
                     go_ret3
                     exact ⟨by first | rfl | (simp [errW_none, errW_some] <;> rfl) | (simp only [← hji8, ← hji12, ← hji14]; first | rfl | (simp [errW_none, errW_some] <;> rfl)) | (simp [*, errW_none, errW_some] <;> rfl), t1_⟩
                   · rw [if_neg c18] at H; have c18b0 : ((t290.size : Int) == (wrap64 (x8_1 + 1))) = false := beq_eq_false_iff_ne.mpr c18; have c18b1 : ((t290.size : Int) != (wrap64 (x8_1 + 1))) = true := bne_iff_ne.mpr c18; simp only [Option.some.injEq, Prod.mk.injEq] at H; obtain ⟨rfl, rfl, rfl⟩ := H; have p11 : 0 ≤ ((ji8) : Int) := of_decide_eq_true t9_; have q11 : (ji8) < (a0.size : Int) := of_decide_eq_true t9_; have hx11 := bt_at a0 (ji8); replace p11 := eq_true p11; replace q11 := eq_true q11
                     go_wp2_with (first | ((with_reducible refine gate_callee (f := 83) rfl ?_); refine goesL_ (some 46) rfl rfl Try.func83 (by kernel_rfl) rfl #[.int .i64 (wrap64 (x7_1 + (ji14)))] rfl (by (try simp only [List.map_toArray, List.map_cons, List.map_nil]); first | done | (simp only [hji14]; rfl) | rfl | (simp only [List.length_drop, List.length_take]; rfl)) ?_; (with_reducible refine (impl_VarText.calls kj4 (wrap64 (x7_1 + (ji14))) t290 true _ A16.out).mono ?_); rintro e w20 ⟨rfl, hb⟩; refine ⟨_, rfl, ?_⟩; replace HB := bS t1_ hb; (try clear hb)))
                     go_ret3
                     exact ⟨by first | rfl | (simp [errW_none, errW_some] <;> rfl) | (simp only [← hji8, ← hji12, ← hji14]; first | rfl | (simp [errW_none, errW_some] <;> rfl)) | (simp [*, errW_none, errW_some] <;> rfl), t1_⟩
                 · replace c17 := Bool.eq_false_iff.mpr c17; subst c17; have H1 : (some (0, 0, false)) = some (r1, r2, r3) := by rw [if_neg (show ¬ (false = true) by decide)] at H; exact H
                   clear H; have H := H1; clear H1; simp only [Option.some.injEq, Prod.mk.injEq] at H; obtain ⟨rfl, rfl, rfl⟩ := H; have p11 : 0 ≤ ((ji8) : Int) := of_decide_eq_true t9_; have q11 : (ji8) < (a0.size : Int) := of_decide_eq_true t9_; have hx11 := bt_at a0 (ji8); replace p11 := eq_true p11; replace q11 := eq_true q11
                   go_wp2_with (first | ((with_reducible refine gate_callee (f := 83) rfl ?_); refine goesL_ (some 46) rfl rfl Try.func83 (by kernel_rfl) rfl #[.int .i64 (wrap64 (x7_1 + (ji14)))] rfl (by (try simp only [List.map_toArray, List.map_cons, List.map_nil]); first | done | (simp only [hji14]; rfl) | rfl | (simp only [List.length_drop, List.length_take]; rfl)) ?_; (with_reducible refine (impl_VarText.calls kj4 (wrap64 (x7_1 + (ji14))) t290 false _ A16.out).mono ?_); rintro e w21 ⟨rfl, hb⟩; refine ⟨_, rfl, ?_⟩; replace HB := bS t1_ hb; (try clear hb)))
                   go_ret3
                   exact ⟨by first | rfl | (simp [errW_none, errW_some] <;> rfl) | (simp only [← hji8, ← hji12, ← hji14]; first | rfl | (simp [errW_none, errW_some] <;> rfl)) | (simp [*, errW_none, errW_some] <;> rfl), t1_⟩
               · rw [if_neg c15] at H; have c15b0 : decide ((wrap64 (bt a0 (ji8))) < 128) = false := decide_eq_false c15; clear c15; have H' := Aside0.mk H; clear H; have p11 : 0 ≤ ((ji8) : Int) := of_decide_eq_true t9_; have q11 : (ji8) < (a0.size : Int) := of_decide_eq_true t9_; have hx11 := bt_at a0 (ji8); replace p11 := eq_true p11; replace q11 := eq_true q11; go_wp2
                 go_roundg kj4
                 case measure => have := HK1.out; have := HJ4.out; omega
                 case rel => exact ⟨(wrap64 (x7_1 + (ji14))), (wrap64 (x8_1 + 1)), (by first | rfl | (simp; done) | (simp only [← hji14] <;> (first | rfl | simp)) | (simp [*]; done)), t23_, H', ⟨by have := HK1.out; have := HJ4.out; omega⟩, ⟨t1_⟩⟩
             · rw [if_neg c13] at H; exact absurd H (by simp)
           · rw [if_neg c10] at H; exact absurd H (by simp)
         · rw [if_neg c9] at H; exact absurd H (by simp)
       · replace c7 := Bool.eq_false_iff.mpr c7; subst c7; have H1 : (some (0, 0, false)) = some (r1, r2, r3) := by rw [if_neg (show ¬ (false = true) by decide)] at H; exact H
         clear H; have H := H1; clear H1; simp only [Option.some.injEq, Prod.mk.injEq] at H; obtain ⟨rfl, rfl, rfl⟩ := H; go_wp2
         go_ret3
         exact ⟨by first | rfl | (simp [errW_none, errW_some] <;> rfl) | (simp [*, errW_none, errW_some] <;> rfl), t1_⟩
 · replace c4 := Bool.eq_false_iff.mpr c4; subst c4; have H1 : (some (0, 0, false)) = some (r1, r2, r3) := by rw [if_neg (show ¬ (false = true) by decide)] at H; exact H
   clear H; have H := H1; clear H1; simp only [Option.some.injEq, Prod.mk.injEq] at H; obtain ⟨rfl, rfl, rfl⟩ := H; go_enter Try.func88, Try.ntmps88
   go_wp2_with (first | ((with_reducible refine gate_callee (f := 68) rfl ?_); refine goesL_ (some 15) rfl rfl Try.func68 (by kernel_rfl) rfl #[.int .i64 a1, .int .i64 0, .int .i64 (a0.size : Int)] rfl t5_ ?_; (with_reducible refine (impl_within.calls a1 0 (a0.size : Int) false _ A3.out).mono ?_); rintro e w' ⟨rfl, ⟨nd, rfl⟩⟩; refine ⟨_, rfl, ?_⟩))
   go_ret3
   exact ⟨by first | rfl | (simp [errW_none, errW_some] <;> rfl) | (simp [*, errW_none, errW_some] <;> rfl), t1_⟩

end Go.Proofs.Ytpnncgfmihjlkaa.QFnBatches
