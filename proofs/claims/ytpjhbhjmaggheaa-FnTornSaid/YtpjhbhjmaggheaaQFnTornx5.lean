-- By a program of this session, over the kit's print.
import Derived.Test.YtpjhbhjmaggheaaQFnTornx0
import Derived.Test.YtpjhbhjmaggheaaQFnTornx4
namespace Go.Proofs.Ytpjhbhjmaggheaa.QFnTorn
open Go.RowKit Go.Proofs.YtpjhbhjmaggheaaW.PrintWords Go.Proofs.YtpjhbhjmaggheaaW.PrintLast Go.Proofs.YtpjhbhjmaggheaaW.PrintMore
attribute [local go_sem] max2_int min2_int max_two min_two max_three min_three max_four min_four   -- for this text's walks alone
set_option linter.unusedVariables false
set_option linter.unusedSimpArgs false

/-! ### spec_DiskOk: function 56 -/
def spec_DiskOk.l0 : Nat → Int → List (S71) → Option (Bool)
 | 0, _, _ => none
 | k + 1, x3, x222000 => if x3 < (x222000.length : Int) then (if 0 ≤ x3 then ((spec_l01In.f (((rd_T71 x222000 x3).f0).size : Int) 1 12).bind fun t223 => (if t223 = true then (if (((rd_T71 x222000 x3).f1).size : Int) > 20000 then (some false) else (if x3 > 0 then (if 0 ≤ (wrap64 (x3 - 1)) then (if (wrap64 (x3 - 1)) < (x222000.length : Int) then (if ((Op.bytesLess (((rd_T71 x222000 (wrap64 (x3 - 1))).f0).toList) (((rd_T71 x222000 x3).f0).toList)) = true) then (spec_DiskOk.l0 k (wrap64 (x3 + 1)) x222000) else (some false)) else (none)) else (none)) else (spec_DiskOk.l0 k (wrap64 (x3 + 1)) x222000))) else (some false))) else (none)) else (some true)
def spec_DiskOk.f (k : Nat) (l0_0 : List (S71)) : Option (Bool) := if (l0_0.length : Int) > 30 then (some false) else (spec_DiskOk.l0 k 0 l0_0)
theorem spec_DiskOk.mono_l : ∀ k, (∀ y0 y1, LeO (spec_DiskOk.l0 k y0 y1) (spec_DiskOk.l0 (k + 1) y0 y1))
 | 0 => fun _ _ r h => by simp [spec_DiskOk.l0] at h
 | k + 1 => by
  have ih0 := spec_DiskOk.mono_l k
  · intro y0 y1
    unfold spec_DiskOk.l0
    repeat' first
    | (with_reducible exact ih0 _ _)
    | (with_reducible exact LeO.refl _)
    | (with_reducible exact LeO.none _)
    | (with_reducible refine LeO.ite ?_ ?_)
    | (with_reducible refine LeO.bind ?_ (fun _ => ?_))
    | exact ih0 _ _
    | exact LeO.none _
    | refine LeO.ite ?_ ?_
    | refine LeO.bind ?_ (fun _ => ?_)
theorem spec_DiskOk.mono : ∀ a0 k, LeO (spec_DiskOk.f k a0) (spec_DiskOk.f (k + 1) a0) := by
 intro a0 k; have ih0 := spec_DiskOk.mono_l k
 unfold spec_DiskOk.f
 repeat' first
  | (with_reducible exact ih0 _ _)
  | (with_reducible exact LeO.refl _)
  | (with_reducible exact LeO.none _)
  | (with_reducible refine LeO.ite ?_ ?_)
  | (with_reducible refine LeO.bind ?_ (fun _ => ?_))
  | exact ih0 _ _
  | exact LeO.none _
  | refine LeO.ite ?_ ?_
  | refine LeO.bind ?_ (fun _ => ?_)
set_option maxHeartbeats 8000000 in
set_option maxRecDepth 100000 in
theorem spec_DiskOk.calls (k : Nat) (A0_0 : Option Addr) (c0_0 : Nat) (l0_0 : List (S71)) (r : Bool) (w : World) (hr0_0 : Kd.C k71 w A0_0 l0_0.length l0_0) (hc0_0 : l0_0.length ≤ c0_0) (h : spec_DiskOk.f k l0_0 = some r) :
 Calls Try.prog 56 #[.agg #[.slice A0_0 l0_0.length c0_0]] w fun e w' => e = .returned (.bool r) ∧ Below w.heap.size w w' := by
 have hu30 := Try.underlying30; have HR0_0 := Aside0.mk hr0_0; have HC0_0 := Aside0.mk hc0_0; clear hr0_0 hc0_0; have HB := Aside0.mk (Below.refl w.heap.size w); have H : (if (l0_0.length : Int) > 30 then (some false) else (spec_DiskOk.l0 k 0 l0_0)) = some r := h; clear h; by_cases c2 : (l0_0.length : Int) > 30
 · rw [if_pos c2] at H; have c2b0 : decide (30 < (l0_0.length : Int)) = true := decide_eq_true c2; have c2b1 : decide (30 < l0_0.length) = true := decide_eq_true (by omega); clear c2; obtain rfl := Option.some.inj H; go_enter Try.func56, Try.ntmps56
   go_wp2_with (first | ((with_reducible refine gate_dst (N := 1) rfl ?_); (try (refine gate_guard (by rfl) ?_; dsimp only)); refine boxE (N := 1) (cs := #[.slice A0_0 l0_0.length c0_0]) (t := 30) (h := ?_); intro gb221 hg w3 hbox hb; have BK221 := Aside0.mk (hbox); have GW221 := Aside0.mk ((t5_ : w.heap.size ≤ gb221)); have GE221 := GW221; replace HB := bS t2_ hb; clear hb hbox hg; obtain ⟨hcz4_0, hfz4_0⟩ := ba1 BK221))
   repeat (go_quiet (first | ((with_reducible refine gate_dst (N := 1) rfl ?_); (try (refine gate_guard (by rfl) ?_; dsimp only)); refine boxE (N := 1) (cs := #[.slice A0_0 l0_0.length c0_0]) (t := 30) (h := ?_); intro gb221 hg w3 hbox hb; have BK221 := Aside0.mk (hbox); have GW221 := Aside0.mk ((t5_ : w.heap.size ≤ gb221)); have GE221 := GW221; replace HB := bS t2_ hb; clear hb hbox hg; obtain ⟨hcz4_0, hfz4_0⟩ := ba1 BK221)); try go_wp2_with (first | ((with_reducible refine gate_dst (N := 1) rfl ?_); (try (refine gate_guard (by rfl) ?_; dsimp only)); refine boxE (N := 1) (cs := #[.slice A0_0 l0_0.length c0_0]) (t := 30) (h := ?_); intro gb221 hg w3 hbox hb; have BK221 := Aside0.mk (hbox); have GW221 := Aside0.mk ((t5_ : w.heap.size ≤ gb221)); have GE221 := GW221; replace HB := bS t2_ hb; clear hb hbox hg; obtain ⟨hcz4_0, hfz4_0⟩ := ba1 BK221)))
   go_ret; exact ⟨by first | rfl | (simp [errW_none, errW_some] <;> rfl) | (simp [*, errW_none, errW_some] <;> rfl), t57_⟩
 · rw [if_neg c2] at H; have c2b0 : decide (30 < (l0_0.length : Int)) = false := decide_eq_false c2; have c2b1 : decide (30 < l0_0.length) = false := decide_eq_false (by omega); clear c2; have H' := Aside0.mk H; clear H; go_enter Try.func56, Try.ntmps56
   go_wp2_with (first | ((with_reducible refine gate_dst (N := 1) rfl ?_); (try (refine gate_guard (by rfl) ?_; dsimp only)); refine boxE (N := 1) (cs := #[.slice A0_0 l0_0.length c0_0]) (t := 30) (h := ?_); intro gb221 hg w5 hbox hb; have BK221 := Aside0.mk (hbox); have GW221 := Aside0.mk ((t5_ : w.heap.size ≤ gb221)); have GE221 := GW221; replace HB := bS t2_ hb; clear hb hbox hg; obtain ⟨hcz6_0, hfz6_0⟩ := ba1 BK221))
   repeat (go_quiet (first | ((with_reducible refine gate_dst (N := 1) rfl ?_); (try (refine gate_guard (by rfl) ?_; dsimp only)); refine boxE (N := 1) (cs := #[.slice A0_0 l0_0.length c0_0]) (t := 30) (h := ?_); intro gb221 hg w5 hbox hb; have BK221 := Aside0.mk (hbox); have GW221 := Aside0.mk ((t5_ : w.heap.size ≤ gb221)); have GE221 := GW221; replace HB := bS t2_ hb; clear hb hbox hg; obtain ⟨hcz6_0, hfz6_0⟩ := ba1 BK221)); try go_wp2_with (first | ((with_reducible refine gate_dst (N := 1) rfl ?_); (try (refine gate_guard (by rfl) ?_; dsimp only)); refine boxE (N := 1) (cs := #[.slice A0_0 l0_0.length c0_0]) (t := 30) (h := ?_); intro gb221 hg w5 hbox hb; have BK221 := Aside0.mk (hbox); have GW221 := Aside0.mk ((t5_ : w.heap.size ≤ gb221)); have GE221 := GW221; replace HB := bS t2_ hb; clear hb hbox hg; obtain ⟨hcz6_0, hfz6_0⟩ := ba1 BK221)))
   go_loopg [3] k (fun kq v3 w' => ∃ (x3_1 : Int), v3 = .int .i64 x3_1 ∧ Aside0 (spec_DiskOk.l0 kq x3_1 l0_0 = some r) ∧ Aside0 (kq ≤ k) ∧ Aside0 (w'.heap[gb221]? = some (.cells #[(.slice A0_0 l0_0.length c0_0)] 30 (0, 0))) ∧ Aside0 (Below w.heap.size w w'))
   case atStart => exact ⟨(0), t27_, H', ⟨Nat.le_refl _⟩, ⟨zN BK221⟩, ⟨t57_⟩⟩
   case round =>
    clear H'
    try clear c2
    try clear c2b0
    try clear c2b1
    try clear p2
    try clear c5
    try clear hcz4_0
    try clear hcz6_0
    try clear hfz4_0
    try clear hfz6_0
    obtain ⟨x3_1, rfl, HA, HK1, BK221, HB⟩ := hrel
    cases gk with
    | zero => exact absurd HA.out (by simp [spec_DiskOk.l0])
    | succ k1 =>
     have H := HA.out; clear HA; simp only [spec_DiskOk.l0] at H; by_cases c7 : x3_1 < (l0_0.length : Int)
     · rw [if_pos c7] at H; have c7b0 : decide (x3_1 < (l0_0.length : Int)) = true := decide_eq_true c7; clear c7; by_cases c8 : 0 ≤ x3_1
       · rw [if_pos c8] at H; have c8b0 : decide (0 ≤ x3_1) = true := decide_eq_true c8; clear c8; replace H := Option.bind_eq_some_iff.mp H; obtain ⟨t223, A90, H⟩ := H; replace H : (if t223 = true then (if (((rd_T71 l0_0 x3_1).f1).size : Int) > 20000 then (some false) else (if x3_1 > 0 then (if 0 ≤ (wrap64 (x3_1 - 1)) then (if (wrap64 (x3_1 - 1)) < (l0_0.length : Int) then (if ((Op.bytesLess (((rd_T71 l0_0 (wrap64 (x3_1 - 1))).f0).toList) (((rd_T71 l0_0 x3_1).f0).toList)) = true) then (spec_DiskOk.l0 k1 (wrap64 (x3_1 + 1)) l0_0) else (some false)) else (none)) else (none)) else (spec_DiskOk.l0 k1 (wrap64 (x3_1 + 1)) l0_0))) else (some false)) = some r := H; have A9 := Aside0.mk A90; clear A90; by_cases c10 : t223 = true
         · subst c10; have H1 : (if (((rd_T71 l0_0 x3_1).f1).size : Int) > 20000 then (some false) else (if x3_1 > 0 then (if 0 ≤ (wrap64 (x3_1 - 1)) then (if (wrap64 (x3_1 - 1)) < (l0_0.length : Int) then (if ((Op.bytesLess (((rd_T71 l0_0 (wrap64 (x3_1 - 1))).f0).toList) (((rd_T71 l0_0 x3_1).f0).toList)) = true) then (spec_DiskOk.l0 k1 (wrap64 (x3_1 + 1)) l0_0) else (some false)) else (none)) else (none)) else (spec_DiskOk.l0 k1 (wrap64 (x3_1 + 1)) l0_0))) = some r := by rw [if_pos rfl] at H; exact H
           clear H; have H := H1; clear H1; by_cases c11 : (((rd_T71 l0_0 x3_1).f1).size : Int) > 20000
           · rw [if_pos c11] at H; have c11b0 : decide (20000 < (((rd_T71 l0_0 x3_1).f1).size : Int)) = true := decide_eq_true c11; have c11b1 : decide (20000 < ((rd_T71 l0_0 x3_1).f1).size) = true := decide_eq_true (by omega); clear c11; obtain rfl := Option.some.inj H; obtain ⟨hcz12_0, hfz12_0⟩ := ba1 BK221; have p222 : 0 ≤ (x3_1 : Int) := of_decide_eq_true t7_; have q222 : x3_1 < (l0_0.length : Int) := of_decide_eq_true t7_; obtain ⟨ad222, e222, hx222_0, hx222_1⟩ := at_T71 HR0_0.out x3_1 p222 q222
             cases e222
             replace hx222_0 := cW HB hx222_0; replace hx222_1 := cW HB hx222_1; replace p222 := eq_true p222; replace q222 := eq_true q222
             (have p224 : 0 ≤ (x3_1 : Int) := of_decide_eq_true t7_; have q224 : x3_1 < (l0_0.length : Int) := of_decide_eq_true t7_; obtain ⟨ad224, e224, hx224_0, hx224_1⟩ := at_T71 HR0_0.out x3_1 p224 q224; obtain rfl : ad222 = ad224 := (by injection e224); replace hx224_0 := cW HB hx224_0; replace hx224_1 := cW HB hx224_1; replace p224 := eq_true p224; replace q224 := eq_true q224)
             go_wp2_with (first | (go_at_call 57; (with_reducible refine (spec_l01In.calls (((rd_T71 l0_0 x3_1).f0).size : Int) 1 12 true _ A9.out).mono ?_); rintro e w' ⟨rfl, ⟨nd, rfl⟩⟩; (try first | exact ⟨rfl, _, World.drewN_drewN _ _ _⟩ | exact ⟨rfl, _, Eq.trans (World.drewN_drewN _ _ _) (congrArg (World.drewN _) (Nat.add_assoc _ _ _))⟩)))
             repeat (go_quiet (first | (go_at_call 57; (with_reducible refine (spec_l01In.calls (((rd_T71 l0_0 x3_1).f0).size : Int) 1 12 true _ A9.out).mono ?_); rintro e w' ⟨rfl, ⟨nd, rfl⟩⟩; (try first | exact ⟨rfl, _, World.drewN_drewN _ _ _⟩ | exact ⟨rfl, _, Eq.trans (World.drewN_drewN _ _ _) (congrArg (World.drewN _) (Nat.add_assoc _ _ _))⟩))); try go_wp2_with (first | (go_at_call 57; (with_reducible refine (spec_l01In.calls (((rd_T71 l0_0 x3_1).f0).size : Int) 1 12 true _ A9.out).mono ?_); rintro e w' ⟨rfl, ⟨nd, rfl⟩⟩; (try first | exact ⟨rfl, _, World.drewN_drewN _ _ _⟩ | exact ⟨rfl, _, Eq.trans (World.drewN_drewN _ _ _) (congrArg (World.drewN _) (Nat.add_assoc _ _ _))⟩); have p224 : 0 ≤ (x3_1 : Int) := of_decide_eq_true t7_; have q224 : x3_1 < (l0_0.length : Int) := of_decide_eq_true t7_; obtain ⟨ad224, e224, hx224_0, hx224_1⟩ := at_T71 HR0_0.out x3_1 p224 q224; obtain rfl : ad222 = ad224 := (by injection e224); replace hx224_0 := cW HB hx224_0; replace hx224_1 := cW HB hx224_1; replace p224 := eq_true p224; replace q224 := eq_true q224)))
             go_ret; exact ⟨by first | rfl | (simp [errW_none, errW_some] <;> rfl) | (simp [*, errW_none, errW_some] <;> rfl), t57_⟩
           · rw [if_neg c11] at H; have c11b0 : decide (20000 < (((rd_T71 l0_0 x3_1).f1).size : Int)) = false := decide_eq_false c11; have c11b1 : decide (20000 < ((rd_T71 l0_0 x3_1).f1).size) = false := decide_eq_false (by omega); clear c11; by_cases c13 : x3_1 > 0
             · rw [if_pos c13] at H; have c13b0 : decide (0 < x3_1) = true := decide_eq_true c13; clear c13; obtain ⟨ji14, hji14⟩ : ∃ j_ : Int, (wrap64 (x3_1 - 1)) = j_ := ⟨_, rfl⟩; replace H : (if 0 ≤ (ji14) then (if (ji14) < (l0_0.length : Int) then (if ((Op.bytesLess (((rd_T71 l0_0 (ji14)).f0).toList) (((rd_T71 l0_0 x3_1).f0).toList)) = true) then (spec_DiskOk.l0 k1 (wrap64 (x3_1 + 1)) l0_0) else (some false)) else (none)) else (none)) = some r := by first | (rw [hji14] at H; exact H) | (simp only [hji14] at H ⊢; exact H)
               (try rw [hji14] at A9)
               have hji14w : (IntKind.i64.wrap (x3_1 - 1)) = ji14 := (i64_w _).trans hji14; by_cases c15 : 0 ≤ (ji14)
               · rw [if_pos c15] at H; have c15b0 : decide (0 ≤ (ji14)) = true := decide_eq_true c15; clear c15; by_cases c16 : (ji14) < (l0_0.length : Int)
                 · rw [if_pos c16] at H; have c16b0 : decide ((ji14) < (l0_0.length : Int)) = true := decide_eq_true c16; clear c16; by_cases c17 : ((Op.bytesLess (((rd_T71 l0_0 (ji14)).f0).toList) (((rd_T71 l0_0 x3_1).f0).toList)) = true)
                   · rw [if_pos c17] at H; have c17b0 : (Op.bytesLess (((rd_T71 l0_0 (ji14)).f0).toList) (((rd_T71 l0_0 x3_1).f0).toList)) = true := c17; obtain ⟨c17b7, c17b6⟩ := bl_gtr_t c17b0; clear c17; have H' := Aside0.mk H; clear H; obtain ⟨hcz18_0, hfz18_0⟩ := ba1 BK221; have p222 : 0 ≤ (x3_1 : Int) := of_decide_eq_true t7_; have q222 : x3_1 < (l0_0.length : Int) := of_decide_eq_true t7_; obtain ⟨ad222, e222, hx222_0, hx222_1⟩ := at_T71 HR0_0.out x3_1 p222 q222
                     cases e222
                     replace hx222_0 := cW HB hx222_0; replace hx222_1 := cW HB hx222_1; replace p222 := eq_true p222; replace q222 := eq_true q222
                     (have p224 : 0 ≤ (x3_1 : Int) := of_decide_eq_true t7_; have q224 : x3_1 < (l0_0.length : Int) := of_decide_eq_true t7_; obtain ⟨ad224, e224, hx224_0, hx224_1⟩ := at_T71 HR0_0.out x3_1 p224 q224; obtain rfl : ad222 = ad224 := (by injection e224); replace hx224_0 := cW HB hx224_0; replace hx224_1 := cW HB hx224_1; replace p224 := eq_true p224; replace q224 := eq_true q224; have p225 : 0 ≤ ((ji14) : Int) := of_decide_eq_true t7_; have q225 : (ji14) < (l0_0.length : Int) := of_decide_eq_true t7_; obtain ⟨ad225, e225, hx225_0, hx225_1⟩ := at_T71 HR0_0.out (ji14) p225 q225; obtain rfl : ad222 = ad225 := (by injection e225); replace hx225_0 := cW HB hx225_0; replace hx225_1 := cW HB hx225_1; replace p225 := eq_true p225; replace q225 := eq_true q225; have p226 : 0 ≤ (x3_1 : Int) := of_decide_eq_true t7_; have q226 : x3_1 < (l0_0.length : Int) := of_decide_eq_true t7_; obtain ⟨ad226, e226, hx226_0, hx226_1⟩ := at_T71 HR0_0.out x3_1 p226 q226; obtain rfl : ad222 = ad226 := (by injection e226); replace hx226_0 := cW HB hx226_0; replace hx226_1 := cW HB hx226_1; replace p226 := eq_true p226; replace q226 := eq_true q226)
                     go_wp2_with (first | (go_at_call 57; (with_reducible refine (spec_l01In.calls (((rd_T71 l0_0 x3_1).f0).size : Int) 1 12 true _ A9.out).mono ?_); rintro e w' ⟨rfl, ⟨nd, rfl⟩⟩; (try first | exact ⟨rfl, _, World.drewN_drewN _ _ _⟩ | exact ⟨rfl, _, Eq.trans (World.drewN_drewN _ _ _) (congrArg (World.drewN _) (Nat.add_assoc _ _ _))⟩)))
                     repeat (go_quiet (first | (go_at_call 57; (with_reducible refine (spec_l01In.calls (((rd_T71 l0_0 x3_1).f0).size : Int) 1 12 true _ A9.out).mono ?_); rintro e w' ⟨rfl, ⟨nd, rfl⟩⟩; (try first | exact ⟨rfl, _, World.drewN_drewN _ _ _⟩ | exact ⟨rfl, _, Eq.trans (World.drewN_drewN _ _ _) (congrArg (World.drewN _) (Nat.add_assoc _ _ _))⟩))); try go_wp2_with (first | (go_at_call 57; (with_reducible refine (spec_l01In.calls (((rd_T71 l0_0 x3_1).f0).size : Int) 1 12 true _ A9.out).mono ?_); rintro e w' ⟨rfl, ⟨nd, rfl⟩⟩; (try first | exact ⟨rfl, _, World.drewN_drewN _ _ _⟩ | exact ⟨rfl, _, Eq.trans (World.drewN_drewN _ _ _) (congrArg (World.drewN _) (Nat.add_assoc _ _ _))⟩); have p224 : 0 ≤ (x3_1 : Int) := of_decide_eq_true t7_; have q224 : x3_1 < (l0_0.length : Int) := of_decide_eq_true t7_; obtain ⟨ad224, e224, hx224_0, hx224_1⟩ := at_T71 HR0_0.out x3_1 p224 q224; obtain rfl : ad222 = ad224 := (by injection e224); replace hx224_0 := cW HB hx224_0; replace hx224_1 := cW HB hx224_1; replace p224 := eq_true p224; replace q224 := eq_true q224; have p225 : 0 ≤ ((ji14) : Int) := of_decide_eq_true t7_; have q225 : (ji14) < (l0_0.length : Int) := of_decide_eq_true t7_; obtain ⟨ad225, e225, hx225_0, hx225_1⟩ := at_T71 HR0_0.out (ji14) p225 q225; obtain rfl : ad222 = ad225 := (by injection e225); replace hx225_0 := cW HB hx225_0; replace hx225_1 := cW HB hx225_1; replace p225 := eq_true p225; replace q225 := eq_true q225; have p226 : 0 ≤ (x3_1 : Int) := of_decide_eq_true t7_; have q226 : x3_1 < (l0_0.length : Int) := of_decide_eq_true t7_; obtain ⟨ad226, e226, hx226_0, hx226_1⟩ := at_T71 HR0_0.out x3_1 p226 q226; obtain rfl : ad222 = ad226 := (by injection e226); replace hx226_0 := cW HB hx226_0; replace hx226_1 := cW HB hx226_1; replace p226 := eq_true p226; replace q226 := eq_true q226)))
                     go_roundg k1
                     case measure => have := HK1.out; omega
                     case rel => exact ⟨(wrap64 (x3_1 + 1)), t27_, H', ⟨by have := HK1.out; omega⟩, ⟨zN BK221⟩, ⟨t57_⟩⟩
                   · rw [if_neg c17] at H; have c17b0 : (Op.bytesLess (((rd_T71 l0_0 (ji14)).f0).toList) (((rd_T71 l0_0 x3_1).f0).toList)) = false := by simpa using c17
                     obtain ⟨c17b7, c17b6⟩ := bl_gtr_f c17b0; clear c17; obtain rfl := Option.some.inj H; obtain ⟨hcz19_0, hfz19_0⟩ := ba1 BK221; have p222 : 0 ≤ (x3_1 : Int) := of_decide_eq_true t7_; have q222 : x3_1 < (l0_0.length : Int) := of_decide_eq_true t7_; obtain ⟨ad222, e222, hx222_0, hx222_1⟩ := at_T71 HR0_0.out x3_1 p222 q222
                     cases e222
                     replace hx222_0 := cW HB hx222_0; replace hx222_1 := cW HB hx222_1; replace p222 := eq_true p222; replace q222 := eq_true q222
                     (have p224 : 0 ≤ (x3_1 : Int) := of_decide_eq_true t7_; have q224 : x3_1 < (l0_0.length : Int) := of_decide_eq_true t7_; obtain ⟨ad224, e224, hx224_0, hx224_1⟩ := at_T71 HR0_0.out x3_1 p224 q224; obtain rfl : ad222 = ad224 := (by injection e224); replace hx224_0 := cW HB hx224_0; replace hx224_1 := cW HB hx224_1; replace p224 := eq_true p224; replace q224 := eq_true q224; have p225 : 0 ≤ ((ji14) : Int) := of_decide_eq_true t7_; have q225 : (ji14) < (l0_0.length : Int) := of_decide_eq_true t7_; obtain ⟨ad225, e225, hx225_0, hx225_1⟩ := at_T71 HR0_0.out (ji14) p225 q225; obtain rfl : ad222 = ad225 := (by injection e225); replace hx225_0 := cW HB hx225_0; replace hx225_1 := cW HB hx225_1; replace p225 := eq_true p225; replace q225 := eq_true q225; have p226 : 0 ≤ (x3_1 : Int) := of_decide_eq_true t7_; have q226 : x3_1 < (l0_0.length : Int) := of_decide_eq_true t7_; obtain ⟨ad226, e226, hx226_0, hx226_1⟩ := at_T71 HR0_0.out x3_1 p226 q226; obtain rfl : ad222 = ad226 := (by injection e226); replace hx226_0 := cW HB hx226_0; replace hx226_1 := cW HB hx226_1; replace p226 := eq_true p226; replace q226 := eq_true q226)
                     go_wp2_with (first | (go_at_call 57; (with_reducible refine (spec_l01In.calls (((rd_T71 l0_0 x3_1).f0).size : Int) 1 12 true _ A9.out).mono ?_); rintro e w' ⟨rfl, ⟨nd, rfl⟩⟩; (try first | exact ⟨rfl, _, World.drewN_drewN _ _ _⟩ | exact ⟨rfl, _, Eq.trans (World.drewN_drewN _ _ _) (congrArg (World.drewN _) (Nat.add_assoc _ _ _))⟩)))
                     repeat (go_quiet (first | (go_at_call 57; (with_reducible refine (spec_l01In.calls (((rd_T71 l0_0 x3_1).f0).size : Int) 1 12 true _ A9.out).mono ?_); rintro e w' ⟨rfl, ⟨nd, rfl⟩⟩; (try first | exact ⟨rfl, _, World.drewN_drewN _ _ _⟩ | exact ⟨rfl, _, Eq.trans (World.drewN_drewN _ _ _) (congrArg (World.drewN _) (Nat.add_assoc _ _ _))⟩))); try go_wp2_with (first | (go_at_call 57; (with_reducible refine (spec_l01In.calls (((rd_T71 l0_0 x3_1).f0).size : Int) 1 12 true _ A9.out).mono ?_); rintro e w' ⟨rfl, ⟨nd, rfl⟩⟩; (try first | exact ⟨rfl, _, World.drewN_drewN _ _ _⟩ | exact ⟨rfl, _, Eq.trans (World.drewN_drewN _ _ _) (congrArg (World.drewN _) (Nat.add_assoc _ _ _))⟩); have p224 : 0 ≤ (x3_1 : Int) := of_decide_eq_true t7_; have q224 : x3_1 < (l0_0.length : Int) := of_decide_eq_true t7_; obtain ⟨ad224, e224, hx224_0, hx224_1⟩ := at_T71 HR0_0.out x3_1 p224 q224; obtain rfl : ad222 = ad224 := (by injection e224); replace hx224_0 := cW HB hx224_0; replace hx224_1 := cW HB hx224_1; replace p224 := eq_true p224; replace q224 := eq_true q224; have p225 : 0 ≤ ((ji14) : Int) := of_decide_eq_true t7_; have q225 : (ji14) < (l0_0.length : Int) := of_decide_eq_true t7_; obtain ⟨ad225, e225, hx225_0, hx225_1⟩ := at_T71 HR0_0.out (ji14) p225 q225; obtain rfl : ad222 = ad225 := (by injection e225); replace hx225_0 := cW HB hx225_0; replace hx225_1 := cW HB hx225_1; replace p225 := eq_true p225; replace q225 := eq_true q225; have p226 : 0 ≤ (x3_1 : Int) := of_decide_eq_true t7_; have q226 : x3_1 < (l0_0.length : Int) := of_decide_eq_true t7_; obtain ⟨ad226, e226, hx226_0, hx226_1⟩ := at_T71 HR0_0.out x3_1 p226 q226; obtain rfl : ad222 = ad226 := (by injection e226); replace hx226_0 := cW HB hx226_0; replace hx226_1 := cW HB hx226_1; replace p226 := eq_true p226; replace q226 := eq_true q226)))
                     go_ret; exact ⟨by first | rfl | (simp [errW_none, errW_some] <;> rfl) | (simp only [← hji14]; first | rfl | (simp [errW_none, errW_some] <;> rfl)) | (simp [*, errW_none, errW_some] <;> rfl), t57_⟩
                 · rw [if_neg c16] at H; exact absurd H (by simp)
               · rw [if_neg c15] at H; exact absurd H (by simp)
             · rw [if_neg c13] at H; have c13b0 : decide (0 < x3_1) = false := decide_eq_false c13; clear c13; have H' := Aside0.mk H; clear H; obtain ⟨hcz20_0, hfz20_0⟩ := ba1 BK221; have p222 : 0 ≤ (x3_1 : Int) := of_decide_eq_true t7_; have q222 : x3_1 < (l0_0.length : Int) := of_decide_eq_true t7_; obtain ⟨ad222, e222, hx222_0, hx222_1⟩ := at_T71 HR0_0.out x3_1 p222 q222
               cases e222
               replace hx222_0 := cW HB hx222_0; replace hx222_1 := cW HB hx222_1; replace p222 := eq_true p222; replace q222 := eq_true q222
               (have p224 : 0 ≤ (x3_1 : Int) := of_decide_eq_true t7_; have q224 : x3_1 < (l0_0.length : Int) := of_decide_eq_true t7_; obtain ⟨ad224, e224, hx224_0, hx224_1⟩ := at_T71 HR0_0.out x3_1 p224 q224; obtain rfl : ad222 = ad224 := (by injection e224); replace hx224_0 := cW HB hx224_0; replace hx224_1 := cW HB hx224_1; replace p224 := eq_true p224; replace q224 := eq_true q224)
               go_wp2_with (first | (go_at_call 57; (with_reducible refine (spec_l01In.calls (((rd_T71 l0_0 x3_1).f0).size : Int) 1 12 true _ A9.out).mono ?_); rintro e w' ⟨rfl, ⟨nd, rfl⟩⟩; (try first | exact ⟨rfl, _, World.drewN_drewN _ _ _⟩ | exact ⟨rfl, _, Eq.trans (World.drewN_drewN _ _ _) (congrArg (World.drewN _) (Nat.add_assoc _ _ _))⟩)))
               repeat (go_quiet (first | (go_at_call 57; (with_reducible refine (spec_l01In.calls (((rd_T71 l0_0 x3_1).f0).size : Int) 1 12 true _ A9.out).mono ?_); rintro e w' ⟨rfl, ⟨nd, rfl⟩⟩; (try first | exact ⟨rfl, _, World.drewN_drewN _ _ _⟩ | exact ⟨rfl, _, Eq.trans (World.drewN_drewN _ _ _) (congrArg (World.drewN _) (Nat.add_assoc _ _ _))⟩))); try go_wp2_with (first | (go_at_call 57; (with_reducible refine (spec_l01In.calls (((rd_T71 l0_0 x3_1).f0).size : Int) 1 12 true _ A9.out).mono ?_); rintro e w' ⟨rfl, ⟨nd, rfl⟩⟩; (try first | exact ⟨rfl, _, World.drewN_drewN _ _ _⟩ | exact ⟨rfl, _, Eq.trans (World.drewN_drewN _ _ _) (congrArg (World.drewN _) (Nat.add_assoc _ _ _))⟩); have p224 : 0 ≤ (x3_1 : Int) := of_decide_eq_true t7_; have q224 : x3_1 < (l0_0.length : Int) := of_decide_eq_true t7_; obtain ⟨ad224, e224, hx224_0, hx224_1⟩ := at_T71 HR0_0.out x3_1 p224 q224; obtain rfl : ad222 = ad224 := (by injection e224); replace hx224_0 := cW HB hx224_0; replace hx224_1 := cW HB hx224_1; replace p224 := eq_true p224; replace q224 := eq_true q224)))
               go_roundg k1
               case measure => have := HK1.out; omega
               case rel => exact ⟨(wrap64 (x3_1 + 1)), t27_, H', ⟨by have := HK1.out; omega⟩, ⟨zN BK221⟩, ⟨t57_⟩⟩
         · replace c10 := Bool.eq_false_iff.mpr c10; subst c10; have H1 : (some false) = some r := by rw [if_neg (show ¬ (false = true) by decide)] at H; exact H
           clear H; have H := H1; clear H1; obtain rfl := Option.some.inj H; obtain ⟨hcz21_0, hfz21_0⟩ := ba1 BK221; have p222 : 0 ≤ (x3_1 : Int) := of_decide_eq_true t7_; have q222 : x3_1 < (l0_0.length : Int) := of_decide_eq_true t7_; obtain ⟨ad222, e222, hx222_0, hx222_1⟩ := at_T71 HR0_0.out x3_1 p222 q222
           cases e222
           replace hx222_0 := cW HB hx222_0; replace hx222_1 := cW HB hx222_1; replace p222 := eq_true p222; replace q222 := eq_true q222
           go_wp2_with (first | (go_at_call 57; (with_reducible refine (spec_l01In.calls (((rd_T71 l0_0 x3_1).f0).size : Int) 1 12 false _ A9.out).mono ?_); rintro e w' ⟨rfl, ⟨nd, rfl⟩⟩; (try first | exact ⟨rfl, _, World.drewN_drewN _ _ _⟩ | exact ⟨rfl, _, Eq.trans (World.drewN_drewN _ _ _) (congrArg (World.drewN _) (Nat.add_assoc _ _ _))⟩)))
           repeat (go_quiet (first | (go_at_call 57; (with_reducible refine (spec_l01In.calls (((rd_T71 l0_0 x3_1).f0).size : Int) 1 12 false _ A9.out).mono ?_); rintro e w' ⟨rfl, ⟨nd, rfl⟩⟩; (try first | exact ⟨rfl, _, World.drewN_drewN _ _ _⟩ | exact ⟨rfl, _, Eq.trans (World.drewN_drewN _ _ _) (congrArg (World.drewN _) (Nat.add_assoc _ _ _))⟩))); try go_wp2_with (first | (go_at_call 57; (with_reducible refine (spec_l01In.calls (((rd_T71 l0_0 x3_1).f0).size : Int) 1 12 false _ A9.out).mono ?_); rintro e w' ⟨rfl, ⟨nd, rfl⟩⟩; (try first | exact ⟨rfl, _, World.drewN_drewN _ _ _⟩ | exact ⟨rfl, _, Eq.trans (World.drewN_drewN _ _ _) (congrArg (World.drewN _) (Nat.add_assoc _ _ _))⟩))))
           go_ret; exact ⟨by first | rfl | (simp [errW_none, errW_some] <;> rfl) | (simp [*, errW_none, errW_some] <;> rfl), t57_⟩
       · rw [if_neg c8] at H; exact absurd H (by simp)
     · rw [if_neg c7] at H; have c7b0 : decide (x3_1 < (l0_0.length : Int)) = false := decide_eq_false c7; clear c7; obtain rfl := Option.some.inj H; obtain ⟨hcz22_0, hfz22_0⟩ := ba1 BK221; go_wp2
       repeat (go_quiet (fail); try go_wp2)
       go_ret; exact ⟨by first | rfl | (simp [errW_none, errW_some] <;> rfl) | (simp [*, errW_none, errW_some] <;> rfl), t57_⟩

end Go.Proofs.Ytpjhbhjmaggheaa.QFnTorn
