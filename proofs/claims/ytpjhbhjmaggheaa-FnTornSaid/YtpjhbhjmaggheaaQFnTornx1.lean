-- By a program of this session, over the kit's print.
import Derived.Test.YtpjhbhjmaggheaaQFnTornx0
namespace Go.Proofs.Ytpjhbhjmaggheaa.QFnTorn
open Go.RowKit Go.Proofs.YtpjhbhjmaggheaaW.PrintWords Go.Proofs.YtpjhbhjmaggheaaW.PrintLast Go.Proofs.YtpjhbhjmaggheaaW.PrintMore
attribute [local go_sem] max2_int min2_int max_two min_two max_three min_three max_four min_four   -- for this text's walks alone
set_option linter.unusedVariables false
set_option linter.unusedSimpArgs false

/-! ### impl_within: function 60 -/
def impl_within.f (a0 : Int) (a1 : Int) (a2 : Int) : Option (Bool) := if a0 ≥ a1 then (some (decide (a0 ≤ a2))) else (some false)
set_option maxHeartbeats 8000000 in
set_option maxRecDepth 100000 in
theorem impl_within.calls (a0 : Int) (a1 : Int) (a2 : Int) (r : Bool) (w : World) (h : impl_within.f a0 a1 a2 = some r) :
 Calls Try.prog 60 #[.int .i64 a0, .int .i64 a1, .int .i64 a2] w fun e w' => e = .returned (.bool r) ∧ Drawn0 w w' := by
 have H : (if a0 ≥ a1 then (some (decide (a0 ≤ a2))) else (some false)) = some r := h; clear h; by_cases c4 : a0 ≥ a1
 · rw [if_pos c4] at H; have c4b0 : decide (a1 ≤ a0) = true := decide_eq_true c4; clear c4; obtain rfl := Option.some.inj H; go_enter Try.func60, Try.ntmps60; go_wp2; go_ret; exact ⟨by first | rfl | (simp; done) | (simp [*]; done), t86_⟩
 · rw [if_neg c4] at H; have c4b0 : decide (a1 ≤ a0) = false := decide_eq_false c4; clear c4; obtain rfl := Option.some.inj H; go_enter Try.func60, Try.ntmps60; go_wp2; go_ret; exact ⟨by first | rfl | (simp; done) | (simp [*]; done), t86_⟩

/-! ### impl_DiskOk: function 34 -/
def impl_DiskOk.l0 : Nat → List (S71) → Int → Int → List (S71) → Option (Bool)
 | 0, _, _, _, _ => none
 | k + 1, x6, x7, x8, x102000 => if x8 < x7 then (if 0 ≤ x8 then (if x8 < (x6.length : Int) then ((impl_within.f (((rd_T71 x6 x8).f0).size : Int) 1 12).bind fun t104 => (if t104 = true then (if (((rd_T71 x6 x8).f1).size : Int) > 20000 then (some false) else (if x8 > 0 then (if 0 ≤ (wrap64 (x8 - 1)) then (if (wrap64 (x8 - 1)) < (x102000.length : Int) then (if ((Op.bytesLess (((rd_T71 x102000 (wrap64 (x8 - 1))).f0).toList) (((rd_T71 x6 x8).f0).toList)) = true) then (impl_DiskOk.l0 k x6 x7 (wrap64 (x8 + 1)) x102000) else (some false)) else (none)) else (none)) else (impl_DiskOk.l0 k x6 x7 (wrap64 (x8 + 1)) x102000))) else (some false))) else (none)) else (none)) else (some (decide ((x102000.length : Int) ≤ 30)))
def impl_DiskOk.f (k : Nat) (l0_0 : List (S71)) : Option (Bool) := impl_DiskOk.l0 k l0_0 (l0_0.length : Int) 0 l0_0
theorem impl_DiskOk.mono_l : ∀ k, (∀ y0 y1 y2 y3, LeO (impl_DiskOk.l0 k y0 y1 y2 y3) (impl_DiskOk.l0 (k + 1) y0 y1 y2 y3))
 | 0 => fun _ _ _ _ r h => by simp [impl_DiskOk.l0] at h
 | k + 1 => by
  have ih0 := impl_DiskOk.mono_l k
  · intro y0 y1 y2 y3
    unfold impl_DiskOk.l0
    repeat' first
    | (with_reducible exact ih0 _ _ _ _)
    | (with_reducible exact LeO.refl _)
    | (with_reducible exact LeO.none _)
    | (with_reducible refine LeO.ite ?_ ?_)
    | (with_reducible refine LeO.bind ?_ (fun _ => ?_))
    | exact ih0 _ _ _ _
    | exact LeO.none _
    | refine LeO.ite ?_ ?_
    | refine LeO.bind ?_ (fun _ => ?_)
theorem impl_DiskOk.mono : ∀ a0 k, LeO (impl_DiskOk.f k a0) (impl_DiskOk.f (k + 1) a0) := by
 intro a0 k; have ih0 := impl_DiskOk.mono_l k
 unfold impl_DiskOk.f
 repeat' first
  | (with_reducible exact ih0 _ _ _ _)
  | (with_reducible exact LeO.refl _)
  | (with_reducible exact LeO.none _)
  | (with_reducible refine LeO.ite ?_ ?_)
  | (with_reducible refine LeO.bind ?_ (fun _ => ?_))
  | exact ih0 _ _ _ _
  | exact LeO.none _
  | refine LeO.ite ?_ ?_
  | refine LeO.bind ?_ (fun _ => ?_)
set_option maxHeartbeats 8000000 in
set_option maxRecDepth 100000 in
theorem impl_DiskOk.calls (k : Nat) (A0_0 : Option Addr) (c0_0 : Nat) (l0_0 : List (S71)) (r : Bool) (w : World) (hr0_0 : Kd.C k71 w A0_0 l0_0.length l0_0) (hc0_0 : l0_0.length ≤ c0_0) (h : impl_DiskOk.f k l0_0 = some r) :
 Calls Try.prog 34 #[.agg #[.slice A0_0 l0_0.length c0_0]] w fun e w' => e = .returned (.bool r) ∧ Below w.heap.size w w' := by
 have hu30 := Try.underlying30; have hu71 := Try.underlying71; have HR0_0 := Aside0.mk hr0_0; have HC0_0 := Aside0.mk hc0_0; clear hr0_0 hc0_0; have HB := Aside0.mk (Below.refl w.heap.size w); have H : (impl_DiskOk.l0 k l0_0 (l0_0.length : Int) 0 l0_0) = some r := h; clear h; have H' := Aside0.mk H; clear H; go_enter Try.func34, Try.ntmps34
 go_wp2_with (first | ((with_reducible refine gate_dst (N := 1) rfl ?_); (try (refine gate_guard (by rfl) ?_; dsimp only)); refine boxE (N := 1) (cs := #[.slice A0_0 l0_0.length c0_0]) (t := 30) (h := ?_); intro gb101 hg w2 hbox hb; have BK101 := Aside0.mk (hbox); have GW101 := Aside0.mk ((t5_ : w.heap.size ≤ gb101)); have GE101 := GW101; replace HB := bS t2_ hb; clear hb hbox hg; obtain ⟨hcz3_0, hfz3_0⟩ := ba1 BK101))
 repeat (go_quiet (first | ((with_reducible refine gate_dst (N := 1) rfl ?_); (try (refine gate_guard (by rfl) ?_; dsimp only)); refine boxE (N := 1) (cs := #[.slice A0_0 l0_0.length c0_0]) (t := 30) (h := ?_); intro gb101 hg w2 hbox hb; have BK101 := Aside0.mk (hbox); have GW101 := Aside0.mk ((t5_ : w.heap.size ≤ gb101)); have GE101 := GW101; replace HB := bS t2_ hb; clear hb hbox hg; obtain ⟨hcz3_0, hfz3_0⟩ := ba1 BK101)); try go_wp2_with (first | ((with_reducible refine gate_dst (N := 1) rfl ?_); (try (refine gate_guard (by rfl) ?_; dsimp only)); refine boxE (N := 1) (cs := #[.slice A0_0 l0_0.length c0_0]) (t := 30) (h := ?_); intro gb101 hg w2 hbox hb; have BK101 := Aside0.mk (hbox); have GW101 := Aside0.mk ((t5_ : w.heap.size ≤ gb101)); have GE101 := GW101; replace HB := bS t2_ hb; clear hb hbox hg; obtain ⟨hcz3_0, hfz3_0⟩ := ba1 BK101)))
 go_loopg [8] k (fun kq v8 w' => ∃ (x8_1 : Int), v8 = .int .i64 x8_1 ∧ Aside0 (impl_DiskOk.l0 kq l0_0 (l0_0.length : Int) x8_1 l0_0 = some r) ∧ Aside0 (kq ≤ k) ∧ Aside0 (w'.heap[gb101]? = some (.cells #[(.slice A0_0 l0_0.length c0_0)] 30 (0, 0))) ∧ Aside0 (Below w.heap.size w w'))
 case atStart => exact ⟨(0), t27_, H', ⟨Nat.le_refl _⟩, ⟨zN BK101⟩, ⟨t9_⟩⟩
 case round =>
  clear H'
  try clear p2
  try clear c3
  try clear hcz3_0
  try clear hfz3_0
  obtain ⟨x8_1, rfl, HA, HK1, BK101, HB⟩ := hrel
  cases gk with
  | zero => exact absurd HA.out (by simp [impl_DiskOk.l0])
  | succ k1 =>
   have H := HA.out; clear HA; simp only [impl_DiskOk.l0] at H; by_cases c4 : x8_1 < (l0_0.length : Int)
   · rw [if_pos c4] at H; have c4b0 : decide (x8_1 < (l0_0.length : Int)) = true := decide_eq_true c4; clear c4; by_cases c5 : 0 ≤ x8_1
     · rw [if_pos c5] at H; have c5b0 : decide (0 ≤ x8_1) = true := decide_eq_true c5; clear c5; by_cases c6 : x8_1 < (l0_0.length : Int)
       · rw [if_pos c6] at H; have c6b0 : decide (x8_1 < (l0_0.length : Int)) = true := decide_eq_true c6; clear c6; replace H := Option.bind_eq_some_iff.mp H; obtain ⟨t104, A70, H⟩ := H; replace H : (if t104 = true then (if (((rd_T71 l0_0 x8_1).f1).size : Int) > 20000 then (some false) else (if x8_1 > 0 then (if 0 ≤ (wrap64 (x8_1 - 1)) then (if (wrap64 (x8_1 - 1)) < (l0_0.length : Int) then (if ((Op.bytesLess (((rd_T71 l0_0 (wrap64 (x8_1 - 1))).f0).toList) (((rd_T71 l0_0 x8_1).f0).toList)) = true) then (impl_DiskOk.l0 k1 l0_0 (l0_0.length : Int) (wrap64 (x8_1 + 1)) l0_0) else (some false)) else (none)) else (none)) else (impl_DiskOk.l0 k1 l0_0 (l0_0.length : Int) (wrap64 (x8_1 + 1)) l0_0))) else (some false)) = some r := H; have A7 := Aside0.mk A70; clear A70; by_cases c8 : t104 = true
         · subst c8; have H1 : (if (((rd_T71 l0_0 x8_1).f1).size : Int) > 20000 then (some false) else (if x8_1 > 0 then (if 0 ≤ (wrap64 (x8_1 - 1)) then (if (wrap64 (x8_1 - 1)) < (l0_0.length : Int) then (if ((Op.bytesLess (((rd_T71 l0_0 (wrap64 (x8_1 - 1))).f0).toList) (((rd_T71 l0_0 x8_1).f0).toList)) = true) then (impl_DiskOk.l0 k1 l0_0 (l0_0.length : Int) (wrap64 (x8_1 + 1)) l0_0) else (some false)) else (none)) else (none)) else (impl_DiskOk.l0 k1 l0_0 (l0_0.length : Int) (wrap64 (x8_1 + 1)) l0_0))) = some r := by rw [if_pos rfl] at H; exact H
           clear H; have H := H1; clear H1; by_cases c9 : (((rd_T71 l0_0 x8_1).f1).size : Int) > 20000
           · rw [if_pos c9] at H; have c9b0 : decide (20000 < (((rd_T71 l0_0 x8_1).f1).size : Int)) = true := decide_eq_true c9; have c9b1 : decide (20000 < ((rd_T71 l0_0 x8_1).f1).size) = true := decide_eq_true (by omega); clear c9; obtain rfl := Option.some.inj H; have p102 : 0 ≤ (x8_1 : Int) := of_decide_eq_true t7_; have q102 : x8_1 < (l0_0.length : Int) := of_decide_eq_true t7_; obtain ⟨ad102, e102, hx102_0, hx102_1⟩ := at_T71 HR0_0.out x8_1 p102 q102
             cases e102
             replace hx102_0 := cW HB hx102_0; replace hx102_1 := cW HB hx102_1; replace p102 := eq_true p102; replace q102 := eq_true q102
             go_wp2_with (first | ((with_reducible refine gate_dst (N := 4) rfl ?_); (try (refine gate_guard (by rfl) ?_; dsimp only)); refine boxE (N := 4) (cs := #[.string (⟨#[]⟩ : ByteArray), .string (⟨#[]⟩ : ByteArray)]) (t := 71) (h := ?_); intro gb103 hg w10 hbox hb; have BK103 := Aside0.mk (hbox); have GW103 := Aside0.mk ((t15_ : w.heap.size ≤ gb103)); have GE103 := GW103; replace HB := bS t9_ hb; have NB101_103 := nbL BK101 hg; have NB103_101 := nbG BK101 hg; replace BK101 := bkN BK101 hb; clear hb hbox hg; have hnb11 := NB103_101.out; have hnc11 := NB101_103.out; obtain ⟨hcz12_0, hcz12_1, hfz12_0, hfz12_1⟩ := ba2 BK103) | (go_at_call 60; (with_reducible refine (impl_within.calls (((rd_T71 l0_0 x8_1).f0).size : Int) 1 12 true _ A7.out).mono ?_); rintro e w' ⟨rfl, ⟨nd, rfl⟩⟩; (try first | exact ⟨rfl, _, World.drewN_drewN _ _ _⟩ | exact ⟨rfl, _, Eq.trans (World.drewN_drewN _ _ _) (congrArg (World.drewN _) (Nat.add_assoc _ _ _))⟩)))
             repeat (go_quiet (first | ((with_reducible refine gate_dst (N := 4) rfl ?_); (try (refine gate_guard (by rfl) ?_; dsimp only)); refine boxE (N := 4) (cs := #[.string (⟨#[]⟩ : ByteArray), .string (⟨#[]⟩ : ByteArray)]) (t := 71) (h := ?_); intro gb103 hg w10 hbox hb; have BK103 := Aside0.mk (hbox); have GW103 := Aside0.mk ((t15_ : w.heap.size ≤ gb103)); have GE103 := GW103; replace HB := bS t9_ hb; have NB101_103 := nbL BK101 hg; have NB103_101 := nbG BK101 hg; replace BK101 := bkN BK101 hb; clear hb hbox hg; have hnb11 := NB103_101.out; have hnc11 := NB101_103.out; obtain ⟨hcz12_0, hcz12_1, hfz12_0, hfz12_1⟩ := ba2 BK103) | (go_at_call 60; (with_reducible refine (impl_within.calls (((rd_T71 l0_0 x8_1).f0).size : Int) 1 12 true _ A7.out).mono ?_); rintro e w' ⟨rfl, ⟨nd, rfl⟩⟩; (try first | exact ⟨rfl, _, World.drewN_drewN _ _ _⟩ | exact ⟨rfl, _, Eq.trans (World.drewN_drewN _ _ _) (congrArg (World.drewN _) (Nat.add_assoc _ _ _))⟩))); try go_wp2_with (first | ((with_reducible refine gate_dst (N := 4) rfl ?_); (try (refine gate_guard (by rfl) ?_; dsimp only)); refine boxE (N := 4) (cs := #[.string (⟨#[]⟩ : ByteArray), .string (⟨#[]⟩ : ByteArray)]) (t := 71) (h := ?_); intro gb103 hg w10 hbox hb; have BK103 := Aside0.mk (hbox); have GW103 := Aside0.mk ((t15_ : w.heap.size ≤ gb103)); have GE103 := GW103; replace HB := bS t9_ hb; have NB101_103 := nbL BK101 hg; have NB103_101 := nbG BK101 hg; replace BK101 := bkN BK101 hb; clear hb hbox hg; have hnb11 := NB103_101.out; have hnc11 := NB101_103.out; obtain ⟨hcz12_0, hcz12_1, hfz12_0, hfz12_1⟩ := ba2 BK103) | (go_at_call 60; (with_reducible refine (impl_within.calls (((rd_T71 l0_0 x8_1).f0).size : Int) 1 12 true _ A7.out).mono ?_); rintro e w' ⟨rfl, ⟨nd, rfl⟩⟩; (try first | exact ⟨rfl, _, World.drewN_drewN _ _ _⟩ | exact ⟨rfl, _, Eq.trans (World.drewN_drewN _ _ _) (congrArg (World.drewN _) (Nat.add_assoc _ _ _))⟩))))
             go_ret; exact ⟨by first | rfl | (simp [errW_none, errW_some] <;> rfl) | (simp [*, errW_none, errW_some] <;> rfl), t74_⟩
           · rw [if_neg c9] at H; have c9b0 : decide (20000 < (((rd_T71 l0_0 x8_1).f1).size : Int)) = false := decide_eq_false c9; have c9b1 : decide (20000 < ((rd_T71 l0_0 x8_1).f1).size) = false := decide_eq_false (by omega); clear c9; by_cases c13 : x8_1 > 0
             · rw [if_pos c13] at H; have c13b0 : decide (0 < x8_1) = true := decide_eq_true c13; clear c13; obtain ⟨ji14, hji14⟩ : ∃ j_ : Int, (wrap64 (x8_1 - 1)) = j_ := ⟨_, rfl⟩; replace H : (if 0 ≤ (ji14) then (if (ji14) < (l0_0.length : Int) then (if ((Op.bytesLess (((rd_T71 l0_0 (ji14)).f0).toList) (((rd_T71 l0_0 x8_1).f0).toList)) = true) then (impl_DiskOk.l0 k1 l0_0 (l0_0.length : Int) (wrap64 (x8_1 + 1)) l0_0) else (some false)) else (none)) else (none)) = some r := by first | (rw [hji14] at H; exact H) | (simp only [hji14] at H ⊢; exact H)
               (try rw [hji14] at A7)
               have hji14w : (IntKind.i64.wrap (x8_1 - 1)) = ji14 := (i64_w _).trans hji14; by_cases c15 : 0 ≤ (ji14)
               · rw [if_pos c15] at H; have c15b0 : decide (0 ≤ (ji14)) = true := decide_eq_true c15; clear c15; by_cases c16 : (ji14) < (l0_0.length : Int)
                 · rw [if_pos c16] at H; have c16b0 : decide ((ji14) < (l0_0.length : Int)) = true := decide_eq_true c16; clear c16; by_cases c17 : ((Op.bytesLess (((rd_T71 l0_0 (ji14)).f0).toList) (((rd_T71 l0_0 x8_1).f0).toList)) = true)
                   · rw [if_pos c17] at H; have c17b0 : (Op.bytesLess (((rd_T71 l0_0 (ji14)).f0).toList) (((rd_T71 l0_0 x8_1).f0).toList)) = true := c17; obtain ⟨c17b7, c17b6⟩ := bl_gtr_t c17b0; clear c17; have H' := Aside0.mk H; clear H; have p102 : 0 ≤ (x8_1 : Int) := of_decide_eq_true t7_; have q102 : x8_1 < (l0_0.length : Int) := of_decide_eq_true t7_; obtain ⟨ad102, e102, hx102_0, hx102_1⟩ := at_T71 HR0_0.out x8_1 p102 q102
                     cases e102
                     replace hx102_0 := cW HB hx102_0; replace hx102_1 := cW HB hx102_1; replace p102 := eq_true p102; replace q102 := eq_true q102
                     go_wp2_with (first | ((with_reducible refine gate_dst (N := 4) rfl ?_); (try (refine gate_guard (by rfl) ?_; dsimp only)); refine boxE (N := 4) (cs := #[.string (⟨#[]⟩ : ByteArray), .string (⟨#[]⟩ : ByteArray)]) (t := 71) (h := ?_); intro gb103 hg w18 hbox hb; have BK103 := Aside0.mk (hbox); have GW103 := Aside0.mk ((t15_ : w.heap.size ≤ gb103)); have GE103 := GW103; replace HB := bS t9_ hb; have NB101_103 := nbL BK101 hg; have NB103_101 := nbG BK101 hg; replace BK101 := bkN BK101 hb; clear hb hbox hg; have hnb19 := NB103_101.out; have hnc19 := NB101_103.out; obtain ⟨hcz20_0, hcz20_1, hfz20_0, hfz20_1⟩ := ba2 BK103) | (go_at_call 60; (with_reducible refine (impl_within.calls (((rd_T71 l0_0 x8_1).f0).size : Int) 1 12 true _ A7.out).mono ?_); rintro e w' ⟨rfl, ⟨nd, rfl⟩⟩; (try first | exact ⟨rfl, _, World.drewN_drewN _ _ _⟩ | exact ⟨rfl, _, Eq.trans (World.drewN_drewN _ _ _) (congrArg (World.drewN _) (Nat.add_assoc _ _ _))⟩); obtain ⟨hcz21_0, hfz21_0⟩ := ba1 BK101; have p105 : 0 ≤ ((ji14) : Int) := of_decide_eq_true t7_; have q105 : (ji14) < (l0_0.length : Int) := of_decide_eq_true t7_; obtain ⟨ad105, e105, hx105_0, hx105_1⟩ := at_T71 HR0_0.out (ji14) p105 q105; obtain rfl : ad102 = ad105 := (by injection e105); have hn105_0 : ad102.block ≠ gb103 := Nat.ne_of_lt (Nat.lt_of_lt_of_le (by have := World.block_lt_of_cell? _ _ hx105_0; first | rwa [add_block] at this | exact this) GW103.out); have hn105_1 : ad102.block ≠ gb103 := Nat.ne_of_lt (Nat.lt_of_lt_of_le (by have := World.block_lt_of_cell? _ _ hx105_0; first | rwa [add_block] at this | exact this) GW103.out); replace hx105_0 := cW HB hx105_0; replace hx105_1 := cW HB hx105_1; replace hx105_0 := (cell_far (p := ⟨gb103, 0, none⟩) (by first | (rw [add_block]; exact hn105_0) | (show (Addr.add _ _).block ≠ _; rw [add_block]; exact hn105_0) | exact hn105_0) (.string ((rd_T71 l0_0 x8_1).f0))).trans hx105_0; replace hx105_1 := (cell_far (p := ⟨gb103, 0, none⟩) (by first | (rw [add_block]; exact hn105_0) | (show (Addr.add _ _).block ≠ _; rw [add_block]; exact hn105_0) | exact hn105_0) (.string ((rd_T71 l0_0 x8_1).f0))).trans hx105_1; replace hx105_0 := (cell_far (p := ⟨gb103, 1, none⟩) (by first | (rw [add_block]; exact hn105_1) | (show (Addr.add _ _).block ≠ _; rw [add_block]; exact hn105_1) | exact hn105_1) (.string ((rd_T71 l0_0 x8_1).f1))).trans hx105_0; replace hx105_1 := (cell_far (p := ⟨gb103, 1, none⟩) (by first | (rw [add_block]; exact hn105_1) | (show (Addr.add _ _).block ≠ _; rw [add_block]; exact hn105_1) | exact hn105_1) (.string ((rd_T71 l0_0 x8_1).f1))).trans hx105_1; (try have hy105_0 := fun (n_ : Nat) => (show ((((w18.drewN n_).setCell ⟨gb103, 0, none⟩ (.string ((rd_T71 l0_0 x8_1).f0))).setCell ⟨gb103, 1, none⟩ (.string ((rd_T71 l0_0 x8_1).f1)))).cell? _ = some _ from hx105_0)); (try have hy105_1 := fun (n_ : Nat) => (show ((((w18.drewN n_).setCell ⟨gb103, 0, none⟩ (.string ((rd_T71 l0_0 x8_1).f0))).setCell ⟨gb103, 1, none⟩ (.string ((rd_T71 l0_0 x8_1).f1)))).cell? _ = some _ from hx105_1)); clear hn105_0; clear hn105_1; replace p105 := eq_true p105; replace q105 := eq_true q105))
                     repeat (go_quiet (first | ((with_reducible refine gate_dst (N := 4) rfl ?_); (try (refine gate_guard (by rfl) ?_; dsimp only)); refine boxE (N := 4) (cs := #[.string (⟨#[]⟩ : ByteArray), .string (⟨#[]⟩ : ByteArray)]) (t := 71) (h := ?_); intro gb103 hg w18 hbox hb; have BK103 := Aside0.mk (hbox); have GW103 := Aside0.mk ((t15_ : w.heap.size ≤ gb103)); have GE103 := GW103; replace HB := bS t9_ hb; have NB101_103 := nbL BK101 hg; have NB103_101 := nbG BK101 hg; replace BK101 := bkN BK101 hb; clear hb hbox hg; have hnb19 := NB103_101.out; have hnc19 := NB101_103.out; obtain ⟨hcz20_0, hcz20_1, hfz20_0, hfz20_1⟩ := ba2 BK103) | (go_at_call 60; (with_reducible refine (impl_within.calls (((rd_T71 l0_0 x8_1).f0).size : Int) 1 12 true _ A7.out).mono ?_); rintro e w' ⟨rfl, ⟨nd, rfl⟩⟩; (try first | exact ⟨rfl, _, World.drewN_drewN _ _ _⟩ | exact ⟨rfl, _, Eq.trans (World.drewN_drewN _ _ _) (congrArg (World.drewN _) (Nat.add_assoc _ _ _))⟩); obtain ⟨hcz21_0, hfz21_0⟩ := ba1 BK101; have p105 : 0 ≤ ((ji14) : Int) := of_decide_eq_true t7_; have q105 : (ji14) < (l0_0.length : Int) := of_decide_eq_true t7_; obtain ⟨ad105, e105, hx105_0, hx105_1⟩ := at_T71 HR0_0.out (ji14) p105 q105; obtain rfl : ad102 = ad105 := (by injection e105); have hn105_0 : ad102.block ≠ gb103 := Nat.ne_of_lt (Nat.lt_of_lt_of_le (by have := World.block_lt_of_cell? _ _ hx105_0; first | rwa [add_block] at this | exact this) GW103.out); have hn105_1 : ad102.block ≠ gb103 := Nat.ne_of_lt (Nat.lt_of_lt_of_le (by have := World.block_lt_of_cell? _ _ hx105_0; first | rwa [add_block] at this | exact this) GW103.out); replace hx105_0 := cW HB hx105_0; replace hx105_1 := cW HB hx105_1; replace hx105_0 := (cell_far (p := ⟨gb103, 0, none⟩) (by first | (rw [add_block]; exact hn105_0) | (show (Addr.add _ _).block ≠ _; rw [add_block]; exact hn105_0) | exact hn105_0) (.string ((rd_T71 l0_0 x8_1).f0))).trans hx105_0; replace hx105_1 := (cell_far (p := ⟨gb103, 0, none⟩) (by first | (rw [add_block]; exact hn105_0) | (show (Addr.add _ _).block ≠ _; rw [add_block]; exact hn105_0) | exact hn105_0) (.string ((rd_T71 l0_0 x8_1).f0))).trans hx105_1; replace hx105_0 := (cell_far (p := ⟨gb103, 1, none⟩) (by first | (rw [add_block]; exact hn105_1) | (show (Addr.add _ _).block ≠ _; rw [add_block]; exact hn105_1) | exact hn105_1) (.string ((rd_T71 l0_0 x8_1).f1))).trans hx105_0; replace hx105_1 := (cell_far (p := ⟨gb103, 1, none⟩) (by first | (rw [add_block]; exact hn105_1) | (show (Addr.add _ _).block ≠ _; rw [add_block]; exact hn105_1) | exact hn105_1) (.string ((rd_T71 l0_0 x8_1).f1))).trans hx105_1; (try have hy105_0 := fun (n_ : Nat) => (show ((((w18.drewN n_).setCell ⟨gb103, 0, none⟩ (.string ((rd_T71 l0_0 x8_1).f0))).setCell ⟨gb103, 1, none⟩ (.string ((rd_T71 l0_0 x8_1).f1)))).cell? _ = some _ from hx105_0)); (try have hy105_1 := fun (n_ : Nat) => (show ((((w18.drewN n_).setCell ⟨gb103, 0, none⟩ (.string ((rd_T71 l0_0 x8_1).f0))).setCell ⟨gb103, 1, none⟩ (.string ((rd_T71 l0_0 x8_1).f1)))).cell? _ = some _ from hx105_1)); clear hn105_0; clear hn105_1; replace p105 := eq_true p105; replace q105 := eq_true q105)); try go_wp2_with (first | ((with_reducible refine gate_dst (N := 4) rfl ?_); (try (refine gate_guard (by rfl) ?_; dsimp only)); refine boxE (N := 4) (cs := #[.string (⟨#[]⟩ : ByteArray), .string (⟨#[]⟩ : ByteArray)]) (t := 71) (h := ?_); intro gb103 hg w18 hbox hb; have BK103 := Aside0.mk (hbox); have GW103 := Aside0.mk ((t15_ : w.heap.size ≤ gb103)); have GE103 := GW103; replace HB := bS t9_ hb; have NB101_103 := nbL BK101 hg; have NB103_101 := nbG BK101 hg; replace BK101 := bkN BK101 hb; clear hb hbox hg; have hnb19 := NB103_101.out; have hnc19 := NB101_103.out; obtain ⟨hcz20_0, hcz20_1, hfz20_0, hfz20_1⟩ := ba2 BK103) | (go_at_call 60; (with_reducible refine (impl_within.calls (((rd_T71 l0_0 x8_1).f0).size : Int) 1 12 true _ A7.out).mono ?_); rintro e w' ⟨rfl, ⟨nd, rfl⟩⟩; (try first | exact ⟨rfl, _, World.drewN_drewN _ _ _⟩ | exact ⟨rfl, _, Eq.trans (World.drewN_drewN _ _ _) (congrArg (World.drewN _) (Nat.add_assoc _ _ _))⟩); obtain ⟨hcz21_0, hfz21_0⟩ := ba1 BK101; have p105 : 0 ≤ ((ji14) : Int) := of_decide_eq_true t7_; have q105 : (ji14) < (l0_0.length : Int) := of_decide_eq_true t7_; obtain ⟨ad105, e105, hx105_0, hx105_1⟩ := at_T71 HR0_0.out (ji14) p105 q105; obtain rfl : ad102 = ad105 := (by injection e105); have hn105_0 : ad102.block ≠ gb103 := Nat.ne_of_lt (Nat.lt_of_lt_of_le (by have := World.block_lt_of_cell? _ _ hx105_0; first | rwa [add_block] at this | exact this) GW103.out); have hn105_1 : ad102.block ≠ gb103 := Nat.ne_of_lt (Nat.lt_of_lt_of_le (by have := World.block_lt_of_cell? _ _ hx105_0; first | rwa [add_block] at this | exact this) GW103.out); replace hx105_0 := cW HB hx105_0; replace hx105_1 := cW HB hx105_1; replace hx105_0 := (cell_far (p := ⟨gb103, 0, none⟩) (by first | (rw [add_block]; exact hn105_0) | (show (Addr.add _ _).block ≠ _; rw [add_block]; exact hn105_0) | exact hn105_0) (.string ((rd_T71 l0_0 x8_1).f0))).trans hx105_0; replace hx105_1 := (cell_far (p := ⟨gb103, 0, none⟩) (by first | (rw [add_block]; exact hn105_0) | (show (Addr.add _ _).block ≠ _; rw [add_block]; exact hn105_0) | exact hn105_0) (.string ((rd_T71 l0_0 x8_1).f0))).trans hx105_1; replace hx105_0 := (cell_far (p := ⟨gb103, 1, none⟩) (by first | (rw [add_block]; exact hn105_1) | (show (Addr.add _ _).block ≠ _; rw [add_block]; exact hn105_1) | exact hn105_1) (.string ((rd_T71 l0_0 x8_1).f1))).trans hx105_0; replace hx105_1 := (cell_far (p := ⟨gb103, 1, none⟩) (by first | (rw [add_block]; exact hn105_1) | (show (Addr.add _ _).block ≠ _; rw [add_block]; exact hn105_1) | exact hn105_1) (.string ((rd_T71 l0_0 x8_1).f1))).trans hx105_1; (try have hy105_0 := fun (n_ : Nat) => (show ((((w18.drewN n_).setCell ⟨gb103, 0, none⟩ (.string ((rd_T71 l0_0 x8_1).f0))).setCell ⟨gb103, 1, none⟩ (.string ((rd_T71 l0_0 x8_1).f1)))).cell? _ = some _ from hx105_0)); (try have hy105_1 := fun (n_ : Nat) => (show ((((w18.drewN n_).setCell ⟨gb103, 0, none⟩ (.string ((rd_T71 l0_0 x8_1).f0))).setCell ⟨gb103, 1, none⟩ (.string ((rd_T71 l0_0 x8_1).f1)))).cell? _ = some _ from hx105_1)); clear hn105_0; clear hn105_1; replace p105 := eq_true p105; replace q105 := eq_true q105)))
                     go_roundg k1
                     case measure => have := HK1.out; omega
                     case rel => exact ⟨(wrap64 (x8_1 + 1)), t27_, H', ⟨by have := HK1.out; omega⟩, ⟨zF2 BK101 NB101_103 NB101_103⟩, ⟨t74_⟩⟩
                   · rw [if_neg c17] at H; have c17b0 : (Op.bytesLess (((rd_T71 l0_0 (ji14)).f0).toList) (((rd_T71 l0_0 x8_1).f0).toList)) = false := by simpa using c17
                     obtain ⟨c17b7, c17b6⟩ := bl_gtr_f c17b0; clear c17; obtain rfl := Option.some.inj H; have p102 : 0 ≤ (x8_1 : Int) := of_decide_eq_true t7_; have q102 : x8_1 < (l0_0.length : Int) := of_decide_eq_true t7_; obtain ⟨ad102, e102, hx102_0, hx102_1⟩ := at_T71 HR0_0.out x8_1 p102 q102
                     cases e102
                     replace hx102_0 := cW HB hx102_0; replace hx102_1 := cW HB hx102_1; replace p102 := eq_true p102; replace q102 := eq_true q102
                     go_wp2_with (first | ((with_reducible refine gate_dst (N := 4) rfl ?_); (try (refine gate_guard (by rfl) ?_; dsimp only)); refine boxE (N := 4) (cs := #[.string (⟨#[]⟩ : ByteArray), .string (⟨#[]⟩ : ByteArray)]) (t := 71) (h := ?_); intro gb103 hg w22 hbox hb; have BK103 := Aside0.mk (hbox); have GW103 := Aside0.mk ((t15_ : w.heap.size ≤ gb103)); have GE103 := GW103; replace HB := bS t9_ hb; have NB101_103 := nbL BK101 hg; have NB103_101 := nbG BK101 hg; replace BK101 := bkN BK101 hb; clear hb hbox hg; have hnb23 := NB103_101.out; have hnc23 := NB101_103.out; obtain ⟨hcz24_0, hcz24_1, hfz24_0, hfz24_1⟩ := ba2 BK103) | (go_at_call 60; (with_reducible refine (impl_within.calls (((rd_T71 l0_0 x8_1).f0).size : Int) 1 12 true _ A7.out).mono ?_); rintro e w' ⟨rfl, ⟨nd, rfl⟩⟩; (try first | exact ⟨rfl, _, World.drewN_drewN _ _ _⟩ | exact ⟨rfl, _, Eq.trans (World.drewN_drewN _ _ _) (congrArg (World.drewN _) (Nat.add_assoc _ _ _))⟩); obtain ⟨hcz25_0, hfz25_0⟩ := ba1 BK101; have p105 : 0 ≤ ((ji14) : Int) := of_decide_eq_true t7_; have q105 : (ji14) < (l0_0.length : Int) := of_decide_eq_true t7_; obtain ⟨ad105, e105, hx105_0, hx105_1⟩ := at_T71 HR0_0.out (ji14) p105 q105; obtain rfl : ad102 = ad105 := (by injection e105); have hn105_0 : ad102.block ≠ gb103 := Nat.ne_of_lt (Nat.lt_of_lt_of_le (by have := World.block_lt_of_cell? _ _ hx105_0; first | rwa [add_block] at this | exact this) GW103.out); have hn105_1 : ad102.block ≠ gb103 := Nat.ne_of_lt (Nat.lt_of_lt_of_le (by have := World.block_lt_of_cell? _ _ hx105_0; first | rwa [add_block] at this | exact this) GW103.out); replace hx105_0 := cW HB hx105_0; replace hx105_1 := cW HB hx105_1; replace hx105_0 := (cell_far (p := ⟨gb103, 0, none⟩) (by first | (rw [add_block]; exact hn105_0) | (show (Addr.add _ _).block ≠ _; rw [add_block]; exact hn105_0) | exact hn105_0) (.string ((rd_T71 l0_0 x8_1).f0))).trans hx105_0; replace hx105_1 := (cell_far (p := ⟨gb103, 0, none⟩) (by first | (rw [add_block]; exact hn105_0) | (show (Addr.add _ _).block ≠ _; rw [add_block]; exact hn105_0) | exact hn105_0) (.string ((rd_T71 l0_0 x8_1).f0))).trans hx105_1; replace hx105_0 := (cell_far (p := ⟨gb103, 1, none⟩) (by first | (rw [add_block]; exact hn105_1) | (show (Addr.add _ _).block ≠ _; rw [add_block]; exact hn105_1) | exact hn105_1) (.string ((rd_T71 l0_0 x8_1).f1))).trans hx105_0; replace hx105_1 := (cell_far (p := ⟨gb103, 1, none⟩) (by first | (rw [add_block]; exact hn105_1) | (show (Addr.add _ _).block ≠ _; rw [add_block]; exact hn105_1) | exact hn105_1) (.string ((rd_T71 l0_0 x8_1).f1))).trans hx105_1; (try have hy105_0 := fun (n_ : Nat) => (show ((((w22.drewN n_).setCell ⟨gb103, 0, none⟩ (.string ((rd_T71 l0_0 x8_1).f0))).setCell ⟨gb103, 1, none⟩ (.string ((rd_T71 l0_0 x8_1).f1)))).cell? _ = some _ from hx105_0)); (try have hy105_1 := fun (n_ : Nat) => (show ((((w22.drewN n_).setCell ⟨gb103, 0, none⟩ (.string ((rd_T71 l0_0 x8_1).f0))).setCell ⟨gb103, 1, none⟩ (.string ((rd_T71 l0_0 x8_1).f1)))).cell? _ = some _ from hx105_1)); clear hn105_0; clear hn105_1; replace p105 := eq_true p105; replace q105 := eq_true q105))
                     repeat (go_quiet (first | ((with_reducible refine gate_dst (N := 4) rfl ?_); (try (refine gate_guard (by rfl) ?_; dsimp only)); refine boxE (N := 4) (cs := #[.string (⟨#[]⟩ : ByteArray), .string (⟨#[]⟩ : ByteArray)]) (t := 71) (h := ?_); intro gb103 hg w22 hbox hb; have BK103 := Aside0.mk (hbox); have GW103 := Aside0.mk ((t15_ : w.heap.size ≤ gb103)); have GE103 := GW103; replace HB := bS t9_ hb; have NB101_103 := nbL BK101 hg; have NB103_101 := nbG BK101 hg; replace BK101 := bkN BK101 hb; clear hb hbox hg; have hnb23 := NB103_101.out; have hnc23 := NB101_103.out; obtain ⟨hcz24_0, hcz24_1, hfz24_0, hfz24_1⟩ := ba2 BK103) | (go_at_call 60; (with_reducible refine (impl_within.calls (((rd_T71 l0_0 x8_1).f0).size : Int) 1 12 true _ A7.out).mono ?_); rintro e w' ⟨rfl, ⟨nd, rfl⟩⟩; (try first | exact ⟨rfl, _, World.drewN_drewN _ _ _⟩ | exact ⟨rfl, _, Eq.trans (World.drewN_drewN _ _ _) (congrArg (World.drewN _) (Nat.add_assoc _ _ _))⟩); obtain ⟨hcz25_0, hfz25_0⟩ := ba1 BK101; have p105 : 0 ≤ ((ji14) : Int) := of_decide_eq_true t7_; have q105 : (ji14) < (l0_0.length : Int) := of_decide_eq_true t7_; obtain ⟨ad105, e105, hx105_0, hx105_1⟩ := at_T71 HR0_0.out (ji14) p105 q105; obtain rfl : ad102 = ad105 := (by injection e105); have hn105_0 : ad102.block ≠ gb103 := Nat.ne_of_lt (Nat.lt_of_lt_of_le (by have := World.block_lt_of_cell? _ _ hx105_0; first | rwa [add_block] at this | exact this) GW103.out); have hn105_1 : ad102.block ≠ gb103 := Nat.ne_of_lt (Nat.lt_of_lt_of_le (by have := World.block_lt_of_cell? _ _ hx105_0; first | rwa [add_block] at this | exact this) GW103.out); replace hx105_0 := cW HB hx105_0; replace hx105_1 := cW HB hx105_1; replace hx105_0 := (cell_far (p := ⟨gb103, 0, none⟩) (by first | (rw [add_block]; exact hn105_0) | (show (Addr.add _ _).block ≠ _; rw [add_block]; exact hn105_0) | exact hn105_0) (.string ((rd_T71 l0_0 x8_1).f0))).trans hx105_0; replace hx105_1 := (cell_far (p := ⟨gb103, 0, none⟩) (by first | (rw [add_block]; exact hn105_0) | (show (Addr.add _ _).block ≠ _; rw [add_block]; exact hn105_0) | exact hn105_0) (.string ((rd_T71 l0_0 x8_1).f0))).trans hx105_1; replace hx105_0 := (cell_far (p := ⟨gb103, 1, none⟩) (by first | (rw [add_block]; exact hn105_1) | (show (Addr.add _ _).block ≠ _; rw [add_block]; exact hn105_1) | exact hn105_1) (.string ((rd_T71 l0_0 x8_1).f1))).trans hx105_0; replace hx105_1 := (cell_far (p := ⟨gb103, 1, none⟩) (by first | (rw [add_block]; exact hn105_1) | (show (Addr.add _ _).block ≠ _; rw [add_block]; exact hn105_1) | exact hn105_1) (.string ((rd_T71 l0_0 x8_1).f1))).trans hx105_1; (try have hy105_0 := fun (n_ : Nat) => (show ((((w22.drewN n_).setCell ⟨gb103, 0, none⟩ (.string ((rd_T71 l0_0 x8_1).f0))).setCell ⟨gb103, 1, none⟩ (.string ((rd_T71 l0_0 x8_1).f1)))).cell? _ = some _ from hx105_0)); (try have hy105_1 := fun (n_ : Nat) => (show ((((w22.drewN n_).setCell ⟨gb103, 0, none⟩ (.string ((rd_T71 l0_0 x8_1).f0))).setCell ⟨gb103, 1, none⟩ (.string ((rd_T71 l0_0 x8_1).f1)))).cell? _ = some _ from hx105_1)); clear hn105_0; clear hn105_1; replace p105 := eq_true p105; replace q105 := eq_true q105)); try go_wp2_with (first | ((with_reducible refine gate_dst (N := 4) rfl ?_); (try (refine gate_guard (by rfl) ?_; dsimp only)); refine boxE (N := 4) (cs := #[.string (⟨#[]⟩ : ByteArray), .string (⟨#[]⟩ : ByteArray)]) (t := 71) (h := ?_); intro gb103 hg w22 hbox hb; have BK103 := Aside0.mk (hbox); have GW103 := Aside0.mk ((t15_ : w.heap.size ≤ gb103)); have GE103 := GW103; replace HB := bS t9_ hb; have NB101_103 := nbL BK101 hg; have NB103_101 := nbG BK101 hg; replace BK101 := bkN BK101 hb; clear hb hbox hg; have hnb23 := NB103_101.out; have hnc23 := NB101_103.out; obtain ⟨hcz24_0, hcz24_1, hfz24_0, hfz24_1⟩ := ba2 BK103) | (go_at_call 60; (with_reducible refine (impl_within.calls (((rd_T71 l0_0 x8_1).f0).size : Int) 1 12 true _ A7.out).mono ?_); rintro e w' ⟨rfl, ⟨nd, rfl⟩⟩; (try first | exact ⟨rfl, _, World.drewN_drewN _ _ _⟩ | exact ⟨rfl, _, Eq.trans (World.drewN_drewN _ _ _) (congrArg (World.drewN _) (Nat.add_assoc _ _ _))⟩); obtain ⟨hcz25_0, hfz25_0⟩ := ba1 BK101; have p105 : 0 ≤ ((ji14) : Int) := of_decide_eq_true t7_; have q105 : (ji14) < (l0_0.length : Int) := of_decide_eq_true t7_; obtain ⟨ad105, e105, hx105_0, hx105_1⟩ := at_T71 HR0_0.out (ji14) p105 q105; obtain rfl : ad102 = ad105 := (by injection e105); have hn105_0 : ad102.block ≠ gb103 := Nat.ne_of_lt (Nat.lt_of_lt_of_le (by have := World.block_lt_of_cell? _ _ hx105_0; first | rwa [add_block] at this | exact this) GW103.out); have hn105_1 : ad102.block ≠ gb103 := Nat.ne_of_lt (Nat.lt_of_lt_of_le (by have := World.block_lt_of_cell? _ _ hx105_0; first | rwa [add_block] at this | exact this) GW103.out); replace hx105_0 := cW HB hx105_0; replace hx105_1 := cW HB hx105_1; replace hx105_0 := (cell_far (p := ⟨gb103, 0, none⟩) (by first | (rw [add_block]; exact hn105_0) | (show (Addr.add _ _).block ≠ _; rw [add_block]; exact hn105_0) | exact hn105_0) (.string ((rd_T71 l0_0 x8_1).f0))).trans hx105_0; replace hx105_1 := (cell_far (p := ⟨gb103, 0, none⟩) (by first | (rw [add_block]; exact hn105_0) | (show (Addr.add _ _).block ≠ _; rw [add_block]; exact hn105_0) | exact hn105_0) (.string ((rd_T71 l0_0 x8_1).f0))).trans hx105_1; replace hx105_0 := (cell_far (p := ⟨gb103, 1, none⟩) (by first | (rw [add_block]; exact hn105_1) | (show (Addr.add _ _).block ≠ _; rw [add_block]; exact hn105_1) | exact hn105_1) (.string ((rd_T71 l0_0 x8_1).f1))).trans hx105_0; replace hx105_1 := (cell_far (p := ⟨gb103, 1, none⟩) (by first | (rw [add_block]; exact hn105_1) | (show (Addr.add _ _).block ≠ _; rw [add_block]; exact hn105_1) | exact hn105_1) (.string ((rd_T71 l0_0 x8_1).f1))).trans hx105_1; (try have hy105_0 := fun (n_ : Nat) => (show ((((w22.drewN n_).setCell ⟨gb103, 0, none⟩ (.string ((rd_T71 l0_0 x8_1).f0))).setCell ⟨gb103, 1, none⟩ (.string ((rd_T71 l0_0 x8_1).f1)))).cell? _ = some _ from hx105_0)); (try have hy105_1 := fun (n_ : Nat) => (show ((((w22.drewN n_).setCell ⟨gb103, 0, none⟩ (.string ((rd_T71 l0_0 x8_1).f0))).setCell ⟨gb103, 1, none⟩ (.string ((rd_T71 l0_0 x8_1).f1)))).cell? _ = some _ from hx105_1)); clear hn105_0; clear hn105_1; replace p105 := eq_true p105; replace q105 := eq_true q105)))
                     go_ret; exact ⟨by first | rfl | (simp [errW_none, errW_some] <;> rfl) | (simp only [← hji14]; first | rfl | (simp [errW_none, errW_some] <;> rfl)) | (simp [*, errW_none, errW_some] <;> rfl), t74_⟩
                 · rw [if_neg c16] at H; exact absurd H (by simp)
               · rw [if_neg c15] at H; exact absurd H (by simp)
             · rw [if_neg c13] at H; have c13b0 : decide (0 < x8_1) = false := decide_eq_false c13; clear c13; have H' := Aside0.mk H; clear H; have p102 : 0 ≤ (x8_1 : Int) := of_decide_eq_true t7_; have q102 : x8_1 < (l0_0.length : Int) := of_decide_eq_true t7_; obtain ⟨ad102, e102, hx102_0, hx102_1⟩ := at_T71 HR0_0.out x8_1 p102 q102
               cases e102
               replace hx102_0 := cW HB hx102_0; replace hx102_1 := cW HB hx102_1; replace p102 := eq_true p102; replace q102 := eq_true q102
               go_wp2_with (first | ((with_reducible refine gate_dst (N := 4) rfl ?_); (try (refine gate_guard (by rfl) ?_; dsimp only)); refine boxE (N := 4) (cs := #[.string (⟨#[]⟩ : ByteArray), .string (⟨#[]⟩ : ByteArray)]) (t := 71) (h := ?_); intro gb103 hg w26 hbox hb; have BK103 := Aside0.mk (hbox); have GW103 := Aside0.mk ((t15_ : w.heap.size ≤ gb103)); have GE103 := GW103; replace HB := bS t9_ hb; have NB101_103 := nbL BK101 hg; have NB103_101 := nbG BK101 hg; replace BK101 := bkN BK101 hb; clear hb hbox hg; have hnb27 := NB103_101.out; have hnc27 := NB101_103.out; obtain ⟨hcz28_0, hcz28_1, hfz28_0, hfz28_1⟩ := ba2 BK103) | (go_at_call 60; (with_reducible refine (impl_within.calls (((rd_T71 l0_0 x8_1).f0).size : Int) 1 12 true _ A7.out).mono ?_); rintro e w' ⟨rfl, ⟨nd, rfl⟩⟩; (try first | exact ⟨rfl, _, World.drewN_drewN _ _ _⟩ | exact ⟨rfl, _, Eq.trans (World.drewN_drewN _ _ _) (congrArg (World.drewN _) (Nat.add_assoc _ _ _))⟩)))
               repeat (go_quiet (first | ((with_reducible refine gate_dst (N := 4) rfl ?_); (try (refine gate_guard (by rfl) ?_; dsimp only)); refine boxE (N := 4) (cs := #[.string (⟨#[]⟩ : ByteArray), .string (⟨#[]⟩ : ByteArray)]) (t := 71) (h := ?_); intro gb103 hg w26 hbox hb; have BK103 := Aside0.mk (hbox); have GW103 := Aside0.mk ((t15_ : w.heap.size ≤ gb103)); have GE103 := GW103; replace HB := bS t9_ hb; have NB101_103 := nbL BK101 hg; have NB103_101 := nbG BK101 hg; replace BK101 := bkN BK101 hb; clear hb hbox hg; have hnb27 := NB103_101.out; have hnc27 := NB101_103.out; obtain ⟨hcz28_0, hcz28_1, hfz28_0, hfz28_1⟩ := ba2 BK103) | (go_at_call 60; (with_reducible refine (impl_within.calls (((rd_T71 l0_0 x8_1).f0).size : Int) 1 12 true _ A7.out).mono ?_); rintro e w' ⟨rfl, ⟨nd, rfl⟩⟩; (try first | exact ⟨rfl, _, World.drewN_drewN _ _ _⟩ | exact ⟨rfl, _, Eq.trans (World.drewN_drewN _ _ _) (congrArg (World.drewN _) (Nat.add_assoc _ _ _))⟩))); try go_wp2_with (first | ((with_reducible refine gate_dst (N := 4) rfl ?_); (try (refine gate_guard (by rfl) ?_; dsimp only)); refine boxE (N := 4) (cs := #[.string (⟨#[]⟩ : ByteArray), .string (⟨#[]⟩ : ByteArray)]) (t := 71) (h := ?_); intro gb103 hg w26 hbox hb; have BK103 := Aside0.mk (hbox); have GW103 := Aside0.mk ((t15_ : w.heap.size ≤ gb103)); have GE103 := GW103; replace HB := bS t9_ hb; have NB101_103 := nbL BK101 hg; have NB103_101 := nbG BK101 hg; replace BK101 := bkN BK101 hb; clear hb hbox hg; have hnb27 := NB103_101.out; have hnc27 := NB101_103.out; obtain ⟨hcz28_0, hcz28_1, hfz28_0, hfz28_1⟩ := ba2 BK103) | (go_at_call 60; (with_reducible refine (impl_within.calls (((rd_T71 l0_0 x8_1).f0).size : Int) 1 12 true _ A7.out).mono ?_); rintro e w' ⟨rfl, ⟨nd, rfl⟩⟩; (try first | exact ⟨rfl, _, World.drewN_drewN _ _ _⟩ | exact ⟨rfl, _, Eq.trans (World.drewN_drewN _ _ _) (congrArg (World.drewN _) (Nat.add_assoc _ _ _))⟩))))
               go_roundg k1
               case measure => have := HK1.out; omega
               case rel => exact ⟨(wrap64 (x8_1 + 1)), t27_, H', ⟨by have := HK1.out; omega⟩, ⟨zF2 BK101 NB101_103 NB101_103⟩, ⟨t74_⟩⟩
         · replace c8 := Bool.eq_false_iff.mpr c8; subst c8; have H1 : (some false) = some r := by rw [if_neg (show ¬ (false = true) by decide)] at H; exact H
           clear H; have H := H1; clear H1; obtain rfl := Option.some.inj H; have p102 : 0 ≤ (x8_1 : Int) := of_decide_eq_true t7_; have q102 : x8_1 < (l0_0.length : Int) := of_decide_eq_true t7_; obtain ⟨ad102, e102, hx102_0, hx102_1⟩ := at_T71 HR0_0.out x8_1 p102 q102
           cases e102
           replace hx102_0 := cW HB hx102_0; replace hx102_1 := cW HB hx102_1; replace p102 := eq_true p102; replace q102 := eq_true q102
           go_wp2_with (first | ((with_reducible refine gate_dst (N := 4) rfl ?_); (try (refine gate_guard (by rfl) ?_; dsimp only)); refine boxE (N := 4) (cs := #[.string (⟨#[]⟩ : ByteArray), .string (⟨#[]⟩ : ByteArray)]) (t := 71) (h := ?_); intro gb103 hg w29 hbox hb; have BK103 := Aside0.mk (hbox); have GW103 := Aside0.mk ((t15_ : w.heap.size ≤ gb103)); have GE103 := GW103; replace HB := bS t9_ hb; have NB101_103 := nbL BK101 hg; have NB103_101 := nbG BK101 hg; replace BK101 := bkN BK101 hb; clear hb hbox hg; have hnb30 := NB103_101.out; have hnc30 := NB101_103.out; obtain ⟨hcz31_0, hcz31_1, hfz31_0, hfz31_1⟩ := ba2 BK103) | (go_at_call 60; (with_reducible refine (impl_within.calls (((rd_T71 l0_0 x8_1).f0).size : Int) 1 12 false _ A7.out).mono ?_); rintro e w' ⟨rfl, ⟨nd, rfl⟩⟩; (try first | exact ⟨rfl, _, World.drewN_drewN _ _ _⟩ | exact ⟨rfl, _, Eq.trans (World.drewN_drewN _ _ _) (congrArg (World.drewN _) (Nat.add_assoc _ _ _))⟩)))
           repeat (go_quiet (first | ((with_reducible refine gate_dst (N := 4) rfl ?_); (try (refine gate_guard (by rfl) ?_; dsimp only)); refine boxE (N := 4) (cs := #[.string (⟨#[]⟩ : ByteArray), .string (⟨#[]⟩ : ByteArray)]) (t := 71) (h := ?_); intro gb103 hg w29 hbox hb; have BK103 := Aside0.mk (hbox); have GW103 := Aside0.mk ((t15_ : w.heap.size ≤ gb103)); have GE103 := GW103; replace HB := bS t9_ hb; have NB101_103 := nbL BK101 hg; have NB103_101 := nbG BK101 hg; replace BK101 := bkN BK101 hb; clear hb hbox hg; have hnb30 := NB103_101.out; have hnc30 := NB101_103.out; obtain ⟨hcz31_0, hcz31_1, hfz31_0, hfz31_1⟩ := ba2 BK103) | (go_at_call 60; (with_reducible refine (impl_within.calls (((rd_T71 l0_0 x8_1).f0).size : Int) 1 12 false _ A7.out).mono ?_); rintro e w' ⟨rfl, ⟨nd, rfl⟩⟩; (try first | exact ⟨rfl, _, World.drewN_drewN _ _ _⟩ | exact ⟨rfl, _, Eq.trans (World.drewN_drewN _ _ _) (congrArg (World.drewN _) (Nat.add_assoc _ _ _))⟩))); try go_wp2_with (first | ((with_reducible refine gate_dst (N := 4) rfl ?_); (try (refine gate_guard (by rfl) ?_; dsimp only)); refine boxE (N := 4) (cs := #[.string (⟨#[]⟩ : ByteArray), .string (⟨#[]⟩ : ByteArray)]) (t := 71) (h := ?_); intro gb103 hg w29 hbox hb; have BK103 := Aside0.mk (hbox); have GW103 := Aside0.mk ((t15_ : w.heap.size ≤ gb103)); have GE103 := GW103; replace HB := bS t9_ hb; have NB101_103 := nbL BK101 hg; have NB103_101 := nbG BK101 hg; replace BK101 := bkN BK101 hb; clear hb hbox hg; have hnb30 := NB103_101.out; have hnc30 := NB101_103.out; obtain ⟨hcz31_0, hcz31_1, hfz31_0, hfz31_1⟩ := ba2 BK103) | (go_at_call 60; (with_reducible refine (impl_within.calls (((rd_T71 l0_0 x8_1).f0).size : Int) 1 12 false _ A7.out).mono ?_); rintro e w' ⟨rfl, ⟨nd, rfl⟩⟩; (try first | exact ⟨rfl, _, World.drewN_drewN _ _ _⟩ | exact ⟨rfl, _, Eq.trans (World.drewN_drewN _ _ _) (congrArg (World.drewN _) (Nat.add_assoc _ _ _))⟩))))
           go_ret; exact ⟨by first | rfl | (simp [errW_none, errW_some] <;> rfl) | (simp [*, errW_none, errW_some] <;> rfl), t74_⟩
       · rw [if_neg c6] at H; exact absurd H (by simp)
     · rw [if_neg c5] at H; exact absurd H (by simp)
   · rw [if_neg c4] at H; have c4b0 : decide (x8_1 < (l0_0.length : Int)) = false := decide_eq_false c4; clear c4; obtain rfl := Option.some.inj H; obtain ⟨hcz32_0, hfz32_0⟩ := ba1 BK101; go_wp2
     repeat (go_quiet (fail); try go_wp2)
     go_ret; exact ⟨by first | rfl | (simp [errW_none, errW_some] <;> rfl) | (simp [*, errW_none, errW_some] <;> rfl), t9_⟩

/-! ### bytealg_CompareString: function 110 -/
def bytealg_CompareString.f (a0 : ByteArray) (a1 : ByteArray) : Option Int := some (Lib.compareBytes a0.data.toList a1.data.toList)
set_option maxHeartbeats 1000000 in
set_option maxRecDepth 100000 in
theorem bytealg_CompareString.same (a b : ByteArray) (w : World) :
 Calls Try.prog 110 #[.string a, .string b] w fun e w' => e = .returned (.int .i64 (Lib.compareBytes a.data.toList b.data.toList)) ∧ w' = w := by
 go_enter Try.func110, Try.ntmps110; go_wp2; rw [run_callFunc_extern Try.func133 (by kernel_rfl) (by kernel_rfl) (by kernel_rfl) (e := Extern.BytealgCompare.compare) (by kernel_rfl), Lib.run_compareString]; simp only [Result.andThen]; rw [Oper.upon_value]; go_wp2; go_ret; exact ⟨rfl, rfl⟩
theorem bytealg_CompareString.calls (a0 : ByteArray) (a1 : ByteArray) (r : Int) (w : World) (h : bytealg_CompareString.f a0 a1 = some r) :
 Calls Try.prog 110 #[.string a0, .string a1] w fun e w' => e = .returned (.int .i64 r) ∧ Drawn0 w w' := by
 obtain rfl := Option.some.inj h; exact (bytealg_CompareString.same a0 a1 w).mono fun e w' ⟨he, hw⟩ => ⟨he, by rw [hw]; exact Drawn0.refl w⟩

/-! ### strings_Compare: function 74 -/
def strings_Compare.f (a0 : ByteArray) (a1 : ByteArray) : Option (Int) := (bytealg_CompareString.f a0 a1).bind fun t106 => (some t106)
set_option maxHeartbeats 8000000 in
set_option maxRecDepth 100000 in
theorem strings_Compare.calls (a0 : ByteArray) (a1 : ByteArray) (r : Int) (w : World) (h : strings_Compare.f a0 a1 = some r) :
 Calls Try.prog 74 #[.string a0, .string a1] w fun e w' => e = .returned (.int .i64 r) ∧ Drawn0 w w' := by
 have H : ((bytealg_CompareString.f a0 a1).bind fun t106 => (some t106)) = some r := h; clear h; replace H := Option.bind_eq_some_iff.mp H; obtain ⟨t106, A30, H⟩ := H; replace H : (some t106) = some r := H; have A3 := Aside0.mk A30; clear A30; obtain rfl := Option.some.inj H; go_enter Try.func74, Try.ntmps74
 go_wp2_with (first | ((with_reducible refine gate_callee (f := 110) rfl ?_); refine goesL_ (some 7) rfl rfl Try.func110 (by kernel_rfl) rfl #[.string a0, .string a1] rfl t0_ ?_; (with_reducible refine (bytealg_CompareString.calls a0 a1 t106 _ A3.out).mono ?_); rintro e w' ⟨rfl, ⟨nd, rfl⟩⟩; refine ⟨_, rfl, ?_⟩))
 go_ret; exact ⟨by first | rfl | (simp; done) | (simp [*]; done), t86_⟩

/-! ### impl_fileNo_1: function 117 -/
def impl_fileNo_1.f (a0_0 : ByteArray) (a0_1 : ByteArray) (a1 : ByteArray) : Option (Int) := (strings_Compare.f a0_0 a1).bind fun t108 => (some t108)
set_option maxHeartbeats 8000000 in
set_option maxRecDepth 100000 in
theorem impl_fileNo_1.calls (a0_0 : ByteArray) (a0_1 : ByteArray) (a1 : ByteArray) (r : Int) (w : World) (h : impl_fileNo_1.f a0_0 a0_1 a1 = some r) :
 Calls Try.prog 117 #[.agg #[.string a0_0, .string a0_1], .string a1] w fun e w' => e = .returned (.int .i64 r) ∧ Below w.heap.size w w' := by
 have hu71 := Try.underlying71; have HB := Aside0.mk (Below.refl w.heap.size w); have H : ((strings_Compare.f a0_0 a1).bind fun t108 => (some t108)) = some r := h; clear h; replace H := Option.bind_eq_some_iff.mp H; obtain ⟨t108, A30, H⟩ := H; replace H : (some t108) = some r := H; have A3 := Aside0.mk A30; clear A30; obtain rfl := Option.some.inj H; go_enter Try.func117, Try.ntmps117
 go_wp2_with (first | ((with_reducible refine gate_dst (N := 2) rfl ?_); refine boxE (N := 2) (cs := #[.string a0_0, .string a0_1]) (t := 71) (h := ?_); intro gb107 hg w4 hbox hb; have BK107 := Aside0.mk (hbox); have GW107 := Aside0.mk ((t5_ : w.heap.size ≤ gb107)); have GE107 := GW107; replace HB := bS t2_ hb; clear hb hbox hg; obtain ⟨hcz5_0, hcz5_1, hfz5_0, hfz5_1⟩ := ba2 BK107) | ((with_reducible refine gate_callee (f := 74) rfl ?_); refine goesL_ (some 8) rfl rfl Try.func74 (by kernel_rfl) rfl #[.string a0_0, .string a1] rfl t0_ ?_; (with_reducible refine (strings_Compare.calls a0_0 a1 t108 _ A3.out).mono ?_); rintro e w' ⟨rfl, ⟨nd, rfl⟩⟩; refine ⟨_, rfl, ?_⟩))
 go_ret; exact ⟨by first | rfl | (simp [errW_none, errW_some] <;> rfl) | (simp [*, errW_none, errW_some] <;> rfl), by repeat (first | (with_reducible first | exact HB.out | apply below_alloc | apply pw_below_drewN | apply below_drew1 | refine below_set ?_ GE107.out) | exact HB.out)⟩

/-! ### impl_fileNo: function 85 -/
/-- The compared field against the name. -/
def impl_fileNo.cmp (l : List S71) (a1 : ByteArray) (i : Nat) : Int := Lib.compareBytes (rd_T71 l (i : Int)).f0.data.toList a1.data.toList
def impl_fileNo.mono0 (l : List S71) (a1 : ByteArray) : Bool :=
 decide (l.length ≤ 1048576) && (List.range l.length).all fun b => (List.range (b + 1)).all fun a => !decide (impl_fileNo.cmp l a1 b < 0) || decide (impl_fileNo.cmp l a1 a < 0)
def impl_fileNo.cnt (l : List S71) (a1 : ByteArray) : Nat := (List.range l.length).countP fun i => decide (impl_fileNo.cmp l a1 i < 0)
def impl_fileNo.f (l0_0 : List S71) (a1 : ByteArray) : Option (Int × Bool) :=
 if impl_fileNo.mono0 l0_0 a1 = true then some ((impl_fileNo.cnt l0_0 a1 : Int), decide (impl_fileNo.cnt l0_0 a1 < l0_0.length) && decide (impl_fileNo.cmp l0_0 a1 (impl_fileNo.cnt l0_0 a1) = 0)) else none
theorem impl_fileNo.mono1 {l : List S71} {a1 : ByteArray} (h : impl_fileNo.mono0 l a1 = true) : l.length ≤ 1048576 ∧ ∀ a b, a ≤ b → b < l.length → impl_fileNo.cmp l a1 b < 0 → impl_fileNo.cmp l a1 a < 0 := by
 unfold impl_fileNo.mono0 at h
 simp only [Bool.and_eq_true, decide_eq_true_eq, List.all_eq_true, List.mem_range, Bool.or_eq_true, Bool.not_eq_true', decide_eq_false_iff_not] at h; exact ⟨h.1, fun a b hab hb hc => (h.2 b hb a (by omega)).resolve_left (fun h => h hc)⟩
theorem impl_fileNo.cnt_eq {l : List S71} {a1 : ByteArray} (i : Nat) (hi : i ≤ l.length) (h1 : ∀ t, t < i → impl_fileNo.cmp l a1 t < 0) (h2 : ∀ t, i ≤ t → t < l.length → 0 ≤ impl_fileNo.cmp l a1 t) : impl_fileNo.cnt l a1 = i := by
 unfold impl_fileNo.cnt
 have e : List.range l.length = List.range i ++ List.range' i (l.length - i) := by
  rw [List.range_eq_range', List.range_eq_range', show l.length = i + (l.length - i) by omega, ← List.range'_append_1, Nat.zero_add, show i + (l.length - i) - i = l.length - i by omega]
 rw [e, List.countP_append, List.countP_eq_length.2 (fun t ht => decide_eq_true (h1 t (List.mem_range.1 ht))), List.countP_eq_zero.2 (fun t ht => ?_), List.length_range]
 · rfl
 · rw [List.mem_range'_1] at ht; have := h2 t (by omega) (by omega); simp only [decide_eq_true_eq]
   omega
/-- A call of a function value that captures nothing. -/
theorem impl_fileNo.goes {P : Program} {ops : Array Oper} {Q : Exit → Act → World → Prop} {rest : List Oper} {oi : Oper} {a : Act} {w : World} (N : Option Tmp) (hd : oi.dst = N) (hg : oi.guard = none) {f : FuncId} {fn : Func} {o : Operand} {xs : Array Operand} {ts : Array TypeId} (hf : P.funcs[f]? = some fn) (hname : (fn.name == "runtime.NumGoroutine") = false) (hb : fn.body.isSome = true) (args : Array Value)
 (hop : oi.op = .call { callee := .value o, args := xs, argTypes := ts }) (ho : a.eval o = .func (.func f) #[] #[]) (hargs : xs.map a.eval = args)
 (h : Calls P f args w fun e w' => ∃ v, e = .returned v ∧ wpList P ops Q rest (a.put N v) w') : wpList P ops Q (oi :: rest) a w := by
 refine wpList_plain hg fun K hK => ?_
 have he := enters_ hf hname hb args w
 have hrun : (execOp a.eval oi).run P w = .ok (.enter f args) w := by
  unfold execOp
  simp [hop, resolve, ho, Deferred.ofValue, invoke, hargs, he]
 unfold Oper.wp
 rw [hrun, Oper.upon_enter]; refine h.mono fun e w'' hh => ?_
 obtain ⟨v, rfl, hk⟩ := hh; subst hd; exact hK _ _ hk
set_option maxHeartbeats 8000000 in
set_option maxRecDepth 100000 in
theorem impl_fileNo.search (A0 : Option Addr) (c0 : Nat) (l0 : List S71) (a1 : ByteArray) (w : World) (hr0 : Kd.C k71 w A0 l0.length l0) (hc0 : l0.length ≤ c0) (hm : impl_fileNo.mono0 l0 a1 = true) :
 Calls Try.prog 116 #[.slice A0 l0.length c0, .string a1, .func (.func 117) #[] #[]] w fun e w' => e = .returned (.tuple #[.int .i64 (impl_fileNo.cnt l0 a1 : Int), .bool (decide (impl_fileNo.cnt l0 a1 < l0.length) && decide (impl_fileNo.cmp l0 a1 (impl_fileNo.cnt l0 a1) = 0))]) ∧ Below w.heap.size w w' := by
 have hu71 := Try.underlying71; have e117 : ∀ args w, (callFunc 117 args).run Try.prog w = .ok (.enter 117 args) w := enters_ Try.func117 (by kernel_rfl) rfl; obtain ⟨hsz, hmono⟩ := impl_fileNo.mono1 hm; have M : Aside (∀ a b, a ≤ b → b < l0.length → impl_fileNo.cmp l0 a1 b < 0 → impl_fileNo.cmp l0 a1 a < 0) := hmono; clear hmono hm; have HR0 := Aside0.mk hr0; have HC0 := Aside0.mk hc0; clear hr0 hc0; have HB := Aside0.mk (Below.refl w.heap.size w); generalize hcnt : impl_fileNo.cnt l0 a1 = cnt; have CN : Aside (impl_fileNo.cnt l0 a1 = cnt) := hcnt; clear hcnt; generalize hfin : (decide (cnt < l0.length) && decide (impl_fileNo.cmp l0 a1 cnt = 0)) = fin; have FIN : Aside ((decide (cnt < l0.length) && decide (impl_fileNo.cmp l0 a1 cnt = 0)) = fin) := hfin; clear hfin; generalize hn : l0.length = n at HC0 hsz; have N : Aside (l0.length = n) := hn; clear hn; go_enter Try.func116, Try.ntmps116; go_wp2
 go_loopg [9, 10] n (fun kx s9 s10 wr => ∃ lo hi : Nat, s9 = .int .i64 lo ∧ s10 = .int .i64 hi ∧ lo ≤ hi ∧ hi ≤ n ∧ hi - lo ≤ kx ∧ Aside0 (Below w.heap.size w wr) ∧
  Aside ((∀ t, t < lo → impl_fileNo.cmp l0 a1 t < 0) ∧ (∀ t, hi ≤ t → t < n → 0 ≤ impl_fileNo.cmp l0 a1 t)))
 case atStart => exact ⟨0, n, rfl, rfl, Nat.zero_le _, Nat.le_refl _, by omega, ⟨t2_⟩, ⟨fun t ht => absurd ht (Nat.not_lt_zero _), fun t h1 h2 => by omega⟩⟩
 case round =>
  clear HB; obtain ⟨lo, hi, rfl, rfl, hlh, hin, hg, HB, I⟩ := hrel; by_cases hlt : lo < hi
  · obtain ⟨ad, e, hx0, hx1⟩ := at_T71 HR0.out ((((lo + hi) / 2 : Nat)) : Int) (by omega) (by have := N.out; omega); subst e; rw [Int.toNat_natCast] at hx0 hx1; generalize hy : rd_T71 l0 (((lo + hi) / 2 : Nat) : Int) = y at hx0 hx1; have Y : Aside (rd_T71 l0 (((lo + hi) / 2 : Nat) : Int) = y) := hy; clear hy; replace hx0 := cW HB hx0; replace hx1 := cW HB hx1; have p1 : (0 ≤ ((lo : Int) + (hi : Int)) / 2) = True := eq_true (by omega); have p2 : (((lo : Int) + (hi : Int)) / 2 < (n : Int)) = True := eq_true (by omega); have p3 : (((lo : Int) + (hi : Int)) / 2).toNat = (lo + hi) / 2 := by omega
    have hc := impl_fileNo_1.calls y.f0 y.f1 a1 _ wr rfl; by_cases hyx : Lib.compareBytes y.f0.data.toList a1.data.toList < 0
    · have hyb : decide (Lib.compareBytes y.f0.data.toList a1.data.toList < 0) = true := decide_eq_true hyx
      go_wp2_with ((with_reducible refine gate_dst (N := 30) rfl ?_); (try (refine gate_guard (by rfl) ?_; dsimp only)); refine impl_fileNo.goes (some 30) rfl rfl Try.func117 (by kernel_rfl) rfl #[.agg #[.string y.f0, .string y.f1], .string a1] rfl rfl t104_ ?_; refine (impl_fileNo_1.calls y.f0 y.f1 a1 _ _ rfl).mono ?_; rintro e w' ⟨rfl, hb⟩; refine ⟨_, rfl, ?_⟩; have n0_ := bS t2_ hb; clear HB; have HB := n0_; clear n0_ hb)
      go_roundg (hi - ((lo + hi) / 2 + 1))
      case measure => omega
      case rel =>
       refine ⟨(lo + hi) / 2 + 1, hi, by rw [show ((lo : Int) + (hi : Int)) / 2 + 1 = (((lo + hi) / 2 + 1 : Nat) : Int) by omega], rfl, by omega, hin, Nat.le_refl _, ⟨t2_⟩, ⟨fun t ht => M.out t ((lo + hi) / 2) (by omega) (by have := N.out; omega) ?_, I.out.2⟩⟩
       unfold impl_fileNo.cmp
       rw [Y.out]; exact hyx
    · have hyb : decide (Lib.compareBytes y.f0.data.toList a1.data.toList < 0) = false := decide_eq_false hyx
      have I2 : Aside ((∀ t, t < lo → impl_fileNo.cmp l0 a1 t < 0) ∧ (∀ t, (lo + hi) / 2 ≤ t → t < n → 0 ≤ impl_fileNo.cmp l0 a1 t)) := ⟨I.out.1, fun t ht htn => Int.not_lt.1 fun h => hyx (by
       have := M.out ((lo + hi) / 2) t ht (by have := N.out; omega) h
       unfold impl_fileNo.cmp at this
       rw [Y.out] at this; exact this)⟩
      go_wp2_with ((with_reducible refine gate_dst (N := 30) rfl ?_); (try (refine gate_guard (by rfl) ?_; dsimp only)); refine impl_fileNo.goes (some 30) rfl rfl Try.func117 (by kernel_rfl) rfl #[.agg #[.string y.f0, .string y.f1], .string a1] rfl rfl t104_ ?_; refine (impl_fileNo_1.calls y.f0 y.f1 a1 _ _ rfl).mono ?_; rintro e w' ⟨rfl, hb⟩; refine ⟨_, rfl, ?_⟩; have n0_ := bS t2_ hb; clear HB; have HB := n0_; clear n0_ hb)
      go_roundg ((lo + hi) / 2 - lo)
      case measure => omega
      case rel =>
       exact ⟨lo, (lo + hi) / 2, rfl, by rw [show ((lo : Int) + (hi : Int)) / 2 = (((lo + hi) / 2 : Nat) : Int) by omega], by omega, by omega, Nat.le_refl _, ⟨t2_⟩, I2⟩
  · obtain rfl : hi = lo := by omega
    have ecnt : cnt = hi := by
     rw [← CN.out]; exact impl_fileNo.cnt_eq hi (by have := N.out; omega) I.out.1 (fun t h1 h2 => I.out.2 t h1 (by have := N.out; omega))
    subst ecnt; by_cases hn : cnt < n
    · obtain ⟨ad, e, hx0, hx1⟩ := at_T71 HR0.out (cnt : Int) (by omega) (by have := N.out; omega); subst e; rw [Int.toNat_natCast] at hx0 hx1; generalize hy : rd_T71 l0 (cnt : Int) = y at hx0 hx1; have Y : Aside (rd_T71 l0 (cnt : Int) = y) := hy; clear hy; replace hx0 := cW HB hx0; replace hx1 := cW HB hx1; have p1 : (0 ≤ (cnt : Int)) = True := eq_true (by omega); have p2 : ((cnt : Int) < (n : Int)) = True := eq_true (by omega); by_cases hyx : Lib.compareBytes y.f0.data.toList a1.data.toList = 0
      · go_wp2_with ((with_reducible refine gate_dst (N := 46) rfl ?_); (try (refine gate_guard (by rfl) ?_; dsimp only)); refine impl_fileNo.goes (some 46) rfl rfl Try.func117 (by kernel_rfl) rfl #[.agg #[.string y.f0, .string y.f1], .string a1] rfl rfl t104_ ?_; refine (impl_fileNo_1.calls y.f0 y.f1 a1 _ _ rfl).mono ?_; rintro e w' ⟨rfl, hb⟩; refine ⟨_, rfl, ?_⟩; have n0_ := bS t2_ hb; clear HB; have HB := n0_; clear n0_ hb)
        go_ret2
        refine ⟨?_, t2_⟩
        rw [← FIN.out, ← N.out]
        unfold impl_fileNo.cmp
        rw [Y.out]
        simp [N.out, hn, hyx]
      · go_wp2_with ((with_reducible refine gate_dst (N := 46) rfl ?_); (try (refine gate_guard (by rfl) ?_; dsimp only)); refine impl_fileNo.goes (some 46) rfl rfl Try.func117 (by kernel_rfl) rfl #[.agg #[.string y.f0, .string y.f1], .string a1] rfl rfl t104_ ?_; refine (impl_fileNo_1.calls y.f0 y.f1 a1 _ _ rfl).mono ?_; rintro e w' ⟨rfl, hb⟩; refine ⟨_, rfl, ?_⟩; have n0_ := bS t2_ hb; clear HB; have HB := n0_; clear n0_ hb)
        go_ret2
        refine ⟨?_, t2_⟩
        rw [← FIN.out, ← N.out]
        unfold impl_fileNo.cmp
        rw [Y.out]
        simp [N.out, hn, hyx]
    · go_wp2
      go_ret2
      refine ⟨?_, t2_⟩
      rw [← FIN.out, ← N.out]
      simp [N.out, hn]
set_option maxHeartbeats 8000000 in
set_option maxRecDepth 100000 in
theorem impl_fileNo.calls (A0_0 : Option Addr) (c0_0 : Nat) (l0_0 : List (S71)) (a1 : ByteArray) (r1 : Int) (r2 : Bool) (w : World) (hr0_0 : Kd.C k71 w A0_0 l0_0.length l0_0) (hc0_0 : l0_0.length ≤ c0_0) (h : impl_fileNo.f l0_0 a1 = some (r1, r2)) :
 Calls Try.prog 85 #[.agg #[.slice A0_0 l0_0.length c0_0], .string a1] w fun e w' => e = .returned (.tuple #[.int .i64 r1, .bool r2]) ∧ Below w.heap.size w w' := by
 have hu30 := Try.underlying30
 unfold impl_fileNo.f at h
 by_cases hm : impl_fileNo.mono0 l0_0 a1 = true
 · rw [if_pos hm] at h; simp only [Option.some.injEq, Prod.mk.injEq] at h; obtain ⟨rfl, rfl⟩ := h; have HB := Aside0.mk (Below.refl w.heap.size w); have HR := Aside0.mk hr0_0; have HC := Aside0.mk hc0_0; clear hr0_0 hc0_0; go_enter Try.func85, Try.ntmps85
   go_wp2_with (first | ((with_reducible refine gate_dst (N := 2) rfl ?_); refine boxE (N := 2) (cs := #[.slice A0_0 l0_0.length c0_0]) (t := 30) (h := ?_); intro gb hg wb hbox hb; have BK := Aside0.mk (hbox); have GE := Aside0.mk (t5_ : w.heap.size ≤ gb); replace HB := bS t2_ hb; clear hb hbox hg; have hcz_0 : wb.cell? ⟨gb, 0, none⟩ = some (.slice A0_0 l0_0.length c0_0) := (blk_cell BK.out 0).trans rfl; have hfz_0 := blk_frozen BK.out 0) | ((with_reducible refine gate_callee (f := 116) rfl ?_); refine goesL_ (some 9) rfl rfl Try.func116 (by kernel_rfl) rfl #[.slice A0_0 l0_0.length c0_0, .string a1, .func (.func 117) #[] #[]] rfl t0_ ?_; (with_reducible refine (impl_fileNo.search _ _ l0_0 a1 _ ?side1 ?side2 hm).mono ?_); (case side1 => exact (Kd.C_below HR.out HB.out)); (case side2 => exact HC.out); rintro e w13 ⟨rfl, hb⟩; refine ⟨_, rfl, ?_⟩; have n1_ := Aside0.mk (below_step (by repeat (first | (with_reducible first | exact HB.out | apply below_alloc | apply pw_below_drewN | apply below_drew1 | refine below_set ?_ GE.out) | exact HB.out)) hb); clear HB; have HB := n1_; clear n1_ hb))
   go_ret2
   exact ⟨by first | rfl | (simp; done) | (simp [*]; done), t2_⟩
 · rw [if_neg hm] at h; exact absurd h (by simp)

/-! ### impl_FileAt: function 32 -/
def impl_FileAt.f (k : Nat) (l0_0 : List (S71)) (a1 : ByteArray) : Option (ByteArray × Bool) := (impl_DiskOk.f k l0_0).bind fun t110 => (if t110 = true then ((impl_fileNo.f l0_0 a1).bind fun bt111 => (if bt111.2 = true then (if 0 ≤ bt111.1 then (if bt111.1 < (l0_0.length : Int) then (some ((rd_T71 l0_0 bt111.1).f1, true)) else (none)) else (none)) else (some ((⟨#[]⟩ : ByteArray), false)))) else (some ((⟨#[]⟩ : ByteArray), false)))
theorem impl_FileAt.mono : ∀ a0 a1 k, LeO (impl_FileAt.f k a0 a1) (impl_FileAt.f (k + 1) a0 a1) := by
 intro a0 a1 k
 unfold impl_FileAt.f
 repeat' first
  | (with_reducible exact impl_DiskOk.mono _ _)
  | (with_reducible exact LeO.refl _)
  | (with_reducible exact LeO.none _)
  | (with_reducible refine LeO.ite ?_ ?_)
  | (with_reducible refine LeO.bind ?_ (fun _ => ?_))
  | exact impl_DiskOk.mono _ _
  | exact LeO.none _
  | refine LeO.ite ?_ ?_
  | refine LeO.bind ?_ (fun _ => ?_)
set_option maxHeartbeats 8000000 in
set_option maxRecDepth 100000 in
theorem impl_FileAt.calls (k : Nat) (A0_0 : Option Addr) (c0_0 : Nat) (l0_0 : List (S71)) (a1 : ByteArray) (r1 : ByteArray) (r2 : Bool) (w : World) (hr0_0 : Kd.C k71 w A0_0 l0_0.length l0_0) (hc0_0 : l0_0.length ≤ c0_0) (h : impl_FileAt.f k l0_0 a1 = some (r1, r2)) :
 Calls Try.prog 32 #[.agg #[.slice A0_0 l0_0.length c0_0], .string a1] w fun e w' => e = .returned (.tuple #[.string r1, .bool r2]) ∧ Below w.heap.size w w' := by
 have hu30 := Try.underlying30; have HR0_0 := Aside0.mk hr0_0; have HC0_0 := Aside0.mk hc0_0; clear hr0_0 hc0_0; have HB := Aside0.mk (Below.refl w.heap.size w); have H : ((impl_DiskOk.f k l0_0).bind fun t110 => (if t110 = true then ((impl_fileNo.f l0_0 a1).bind fun bt111 => (if bt111.2 = true then (if 0 ≤ bt111.1 then (if bt111.1 < (l0_0.length : Int) then (some ((rd_T71 l0_0 bt111.1).f1, true)) else (none)) else (none)) else (some ((⟨#[]⟩ : ByteArray), false)))) else (some ((⟨#[]⟩ : ByteArray), false)))) = some (r1, r2) := h; clear h; replace H := Option.bind_eq_some_iff.mp H; obtain ⟨t110, A30, H⟩ := H; replace H : (if t110 = true then ((impl_fileNo.f l0_0 a1).bind fun bt111 => (if bt111.2 = true then (if 0 ≤ bt111.1 then (if bt111.1 < (l0_0.length : Int) then (some ((rd_T71 l0_0 bt111.1).f1, true)) else (none)) else (none)) else (some ((⟨#[]⟩ : ByteArray), false)))) else (some ((⟨#[]⟩ : ByteArray), false))) = some (r1, r2) := H; have A3 := Aside0.mk A30; clear A30; by_cases c4 : t110 = true
 · subst c4; have H1 : ((impl_fileNo.f l0_0 a1).bind fun bt111 => (if bt111.2 = true then (if 0 ≤ bt111.1 then (if bt111.1 < (l0_0.length : Int) then (some ((rd_T71 l0_0 bt111.1).f1, true)) else (none)) else (none)) else (some ((⟨#[]⟩ : ByteArray), false)))) = some (r1, r2) := by rw [if_pos rfl] at H; exact H
   clear H; have H := H1; clear H1; replace H := Option.bind_eq_some_iff.mp H; obtain ⟨⟨t111, t112⟩, A50, H⟩ := H; replace H : (if t112 = true then (if 0 ≤ t111 then (if t111 < (l0_0.length : Int) then (some ((rd_T71 l0_0 t111).f1, true)) else (none)) else (none)) else (some ((⟨#[]⟩ : ByteArray), false))) = some (r1, r2) := H; have A5 := Aside0.mk A50; clear A50; by_cases c6 : t112 = true
   · subst c6; have H1 : (if 0 ≤ t111 then (if t111 < (l0_0.length : Int) then (some ((rd_T71 l0_0 t111).f1, true)) else (none)) else (none)) = some (r1, r2) := by rw [if_pos rfl] at H; exact H
     clear H; have H := H1; clear H1; by_cases c7 : 0 ≤ t111
     · rw [if_pos c7] at H; have c7b0 : decide (0 ≤ t111) = true := decide_eq_true c7; clear c7; by_cases c8 : t111 < (l0_0.length : Int)
       · rw [if_pos c8] at H; have c8b0 : decide (t111 < (l0_0.length : Int)) = true := decide_eq_true c8; clear c8; simp only [Option.some.injEq, Prod.mk.injEq] at H; obtain ⟨rfl, rfl⟩ := H; go_enter Try.func32, Try.ntmps32
         go_wp2_with (first | ((with_reducible refine gate_dst (N := 2) rfl ?_); refine boxE (N := 2) (cs := #[.slice A0_0 l0_0.length c0_0]) (t := 30) (h := ?_); intro gb109 hg w9 hbox hb; have BK109 := Aside0.mk (hbox); have GW109 := Aside0.mk ((t5_ : w.heap.size ≤ gb109)); have GE109 := GW109; replace HB := bS t2_ hb; clear hb hbox hg; obtain ⟨hcz10_0, hfz10_0⟩ := ba1 BK109) | ((with_reducible refine gate_callee (f := 34) rfl ?_); refine goesL_ (some 9) rfl rfl Try.func34 (by kernel_rfl) rfl #[.agg #[.slice A0_0 l0_0.length c0_0]] rfl t0_ ?_; (with_reducible refine (impl_DiskOk.calls k _ _ l0_0 true _ ?side1 ?side2 A3.out).mono ?_); (case side1 => exact cB HR0_0 HB); (case side2 => exact HC0_0.out); rintro e w11 ⟨rfl, hb⟩; refine ⟨_, rfl, ?_⟩; replace BK109 := bkN BK109 hb; replace HB := bS t56_ hb; (try clear hb); obtain ⟨hcz12_0, hfz12_0⟩ := ba1 BK109) | ((with_reducible refine gate_callee (f := 85) rfl ?_); refine goesL_ (some 14) rfl rfl Try.func85 (by kernel_rfl) rfl #[.agg #[.slice A0_0 l0_0.length c0_0], .string a1] rfl t0_ ?_; (with_reducible refine (impl_fileNo.calls _ _ l0_0 a1 t111 true _ ?side1 ?side2 A5.out).mono ?_); (case side1 => exact cB HR0_0 HB); (case side2 => exact HC0_0.out); rintro e w13 ⟨rfl, hb⟩; refine ⟨_, rfl, ?_⟩; replace BK109 := bkN BK109 hb; replace HB := bS t56_ hb; (try clear hb); obtain ⟨hcz14_0, hfz14_0⟩ := ba1 BK109; have p113 : 0 ≤ (t111 : Int) := of_decide_eq_true t7_; have q113 : t111 < (l0_0.length : Int) := of_decide_eq_true t7_; obtain ⟨ad113, e113, hx113_0, hx113_1⟩ := at_T71 HR0_0.out t111 p113 q113; cases e113; replace hx113_0 := cW HB hx113_0; replace hx113_1 := cW HB hx113_1; replace p113 := eq_true p113; replace q113 := eq_true q113))
         go_ret2
         exact ⟨by first | rfl | (simp [errW_none, errW_some] <;> rfl) | (simp [*, errW_none, errW_some] <;> rfl), t56_⟩
       · rw [if_neg c8] at H; exact absurd H (by simp)
     · rw [if_neg c7] at H; exact absurd H (by simp)
   · replace c6 := Bool.eq_false_iff.mpr c6; subst c6; have H1 : (some ((⟨#[]⟩ : ByteArray), false)) = some (r1, r2) := by rw [if_neg (show ¬ (false = true) by decide)] at H; exact H
     clear H; have H := H1; clear H1; simp only [Option.some.injEq, Prod.mk.injEq] at H; obtain ⟨rfl, rfl⟩ := H; go_enter Try.func32, Try.ntmps32
     go_wp2_with (first | ((with_reducible refine gate_dst (N := 2) rfl ?_); refine boxE (N := 2) (cs := #[.slice A0_0 l0_0.length c0_0]) (t := 30) (h := ?_); intro gb109 hg w15 hbox hb; have BK109 := Aside0.mk (hbox); have GW109 := Aside0.mk ((t5_ : w.heap.size ≤ gb109)); have GE109 := GW109; replace HB := bS t2_ hb; clear hb hbox hg; obtain ⟨hcz16_0, hfz16_0⟩ := ba1 BK109) | ((with_reducible refine gate_callee (f := 34) rfl ?_); refine goesL_ (some 9) rfl rfl Try.func34 (by kernel_rfl) rfl #[.agg #[.slice A0_0 l0_0.length c0_0]] rfl t0_ ?_; (with_reducible refine (impl_DiskOk.calls k _ _ l0_0 true _ ?side1 ?side2 A3.out).mono ?_); (case side1 => exact cB HR0_0 HB); (case side2 => exact HC0_0.out); rintro e w17 ⟨rfl, hb⟩; refine ⟨_, rfl, ?_⟩; replace BK109 := bkN BK109 hb; replace HB := bS t56_ hb; (try clear hb); obtain ⟨hcz18_0, hfz18_0⟩ := ba1 BK109) | ((with_reducible refine gate_callee (f := 85) rfl ?_); refine goesL_ (some 14) rfl rfl Try.func85 (by kernel_rfl) rfl #[.agg #[.slice A0_0 l0_0.length c0_0], .string a1] rfl t0_ ?_; (with_reducible refine (impl_fileNo.calls _ _ l0_0 a1 t111 false _ ?side1 ?side2 A5.out).mono ?_); (case side1 => exact cB HR0_0 HB); (case side2 => exact HC0_0.out); rintro e w19 ⟨rfl, hb⟩; refine ⟨_, rfl, ?_⟩; replace BK109 := bkN BK109 hb; replace HB := bS t56_ hb; (try clear hb)))
     go_ret2
     exact ⟨by first | rfl | (simp [errW_none, errW_some] <;> rfl) | (simp [*, errW_none, errW_some] <;> rfl), t56_⟩
 · replace c4 := Bool.eq_false_iff.mpr c4; subst c4; have H1 : (some ((⟨#[]⟩ : ByteArray), false)) = some (r1, r2) := by rw [if_neg (show ¬ (false = true) by decide)] at H; exact H
   clear H; have H := H1; clear H1; simp only [Option.some.injEq, Prod.mk.injEq] at H; obtain ⟨rfl, rfl⟩ := H; go_enter Try.func32, Try.ntmps32
   go_wp2_with (first | ((with_reducible refine gate_dst (N := 2) rfl ?_); refine boxE (N := 2) (cs := #[.slice A0_0 l0_0.length c0_0]) (t := 30) (h := ?_); intro gb109 hg w20 hbox hb; have BK109 := Aside0.mk (hbox); have GW109 := Aside0.mk ((t5_ : w.heap.size ≤ gb109)); have GE109 := GW109; replace HB := bS t2_ hb; clear hb hbox hg; obtain ⟨hcz21_0, hfz21_0⟩ := ba1 BK109) | ((with_reducible refine gate_callee (f := 34) rfl ?_); refine goesL_ (some 9) rfl rfl Try.func34 (by kernel_rfl) rfl #[.agg #[.slice A0_0 l0_0.length c0_0]] rfl t0_ ?_; (with_reducible refine (impl_DiskOk.calls k _ _ l0_0 false _ ?side1 ?side2 A3.out).mono ?_); (case side1 => exact cB HR0_0 HB); (case side2 => exact HC0_0.out); rintro e w22 ⟨rfl, hb⟩; refine ⟨_, rfl, ?_⟩; replace BK109 := bkN BK109 hb; replace HB := bS t56_ hb; (try clear hb)))
   go_ret2
   exact ⟨by first | rfl | (simp [errW_none, errW_some] <;> rfl) | (simp [*, errW_none, errW_some] <;> rfl), t56_⟩

/-! ### impl_copyDisk: function 84 -/
def impl_copyDisk.f (l0_0 : List (S71)) : Option ((List (S71))) := if ([] : List (S71)).length + l0_0.length < 4398046511104 then (some (([] : List (S71)) ++ l0_0)) else (none)
set_option maxHeartbeats 8000000 in
set_option maxRecDepth 100000 in
theorem impl_copyDisk.calls (A0_0 : Option Addr) (c0_0 : Nat) (l0_0 : List (S71)) (r : List (S71)) (w : World) (hr0_0 : Kd.C k71 w A0_0 l0_0.length l0_0) (hc0_0 : l0_0.length ≤ c0_0) (h : impl_copyDisk.f l0_0 = some r) :
 Calls Try.prog 84 #[.agg #[.slice A0_0 l0_0.length c0_0]] w fun e w' => ∃ v0_ : Value, e = .returned (.agg #[v0_]) ∧ Kd.R k71 71 w' w.heap.size (fun _ => True) v0_ r ∧ Below w.heap.size w w' := by
 have hu30 := Try.underlying30; have HR0_0 := Aside0.mk hr0_0; have HC0_0 := Aside0.mk hc0_0; clear hr0_0 hc0_0; have HB := Aside0.mk (Below.refl w.heap.size w); have H : (if ([] : List (S71)).length + l0_0.length < 4398046511104 then (some (([] : List (S71)) ++ l0_0)) else (none)) = some r := h; clear h; by_cases c2 : ([] : List (S71)).length + l0_0.length < 4398046511104
 · rw [if_pos c2] at H; have LMc2 := Aside0.mk c2; clear c2; obtain ⟨y116, hy116⟩ : ∃ y_ : List (S71), y_ = (([] : List (S71)) ++ l0_0) := ⟨_, rfl⟩; replace H : (some y116) = some r := by first | (rw [hy116]; with_reducible exact H) | (have H2_ := (Option.bind_some _ _).symm.trans H; rw [hy116]; with_reducible exact H2_) | (have H2_ := (Option.bind_some _ _).symm.trans H; with_reducible exact H2_) | with_reducible exact H | (rw [hy116]; exact H) | exact H
   have Ny116 := Aside0.mk hy116; clear hy116; obtain rfl := Option.some.inj H; go_enter Try.func84, Try.ntmps84
   go_wp2_with (first | ((with_reducible refine gate_dst (N := 1) rfl ?_); refine boxE (N := 1) (cs := #[.slice A0_0 l0_0.length c0_0]) (t := 30) (h := ?_); intro gb114 hg w3 hbox hb; have BK114 := Aside0.mk (hbox); have GW114 := Aside0.mk ((t5_ : w.heap.size ≤ gb114)); have GE114 := GW114; replace HB := bS t2_ hb; clear hb hbox hg) | ((with_reducible refine gate_dst (N := 2) rfl ?_); refine boxE (N := 2) (cs := #[.slice none 0 0]) (t := 30) (h := ?_); intro gb115 hg w4 hbox hb; have BK115 := Aside0.mk (hbox); have GW115 := Aside0.mk ((by rw [hg]; exact (below_size (by repeat (first | (with_reducible first | exact HB.out | apply below_alloc | apply pw_below_drewN | apply below_drew1 | refine below_set ?_ GE114.out) | exact HB.out))) : w.heap.size ≤ gb115)); have GE115 := Aside0.mk ((by rw [hg]; exact (below_size (by repeat (first | (with_reducible first | exact HB.out | apply below_alloc | apply pw_below_drewN | apply below_drew1 | refine below_set ?_ GE114.out) | exact HB.out))) : w.heap.size ≤ gb115)); replace HB := Aside0.mk (below_step (by repeat (first | (with_reducible first | exact HB.out | apply below_alloc | apply pw_below_drewN | apply below_drew1 | refine below_set ?_ GE114.out) | exact HB.out)) hb); have NB114_115 := nbL BK114 hg; have NB115_114 := nbG BK114 hg; replace BK114 := bkN BK114 hb; clear hb hbox hg; have hnb5 := NB114_115.out; have hnc5 := NB115_114.out; obtain ⟨hcz6_0, hfz6_0⟩ := ba1 BK114) | ((with_reducible refine gate_builtin (b := .append) (xs := #[.const (.slice none 0 0), .tmp 4]) rfl ?_); at_builtin; refine Kd.R_append_rows k71 (w0 := w) w.heap.size rfl (.const (.slice none 0 0)) (.tmp 4) 28 71 (.agg #[(.string ⟨#[]⟩), (.string ⟨#[]⟩)]) 32 rfl Try.underlying28 info71 rfl (by decide) (by omega) (.slice none 0 0) ([] : List (S71)) l0_0 _ _ _ (fun _ => True) (fun _ => False) rfl rfl ?aO ?aR (fun _ _ h => h) (fun _ h => h.elim) ?aF ?aB ?aS ?aL ?_; (case aR => exact cB HR0_0 HB); (case aB => exact (by repeat (first | (with_reducible first | exact HB.out | apply below_alloc | apply pw_below_drewN | apply below_drew1 | refine below_set ?_ GE114.out | refine below_set ?_ GE115.out) | exact HB.out))); (case aF => exact (fun _ _ => trivial)); (case aO => exact ((Kd.R_nil _ _ _ _ (fun _ => True)))); (case aS => exact (below_size (by repeat (first | (with_reducible first | exact HB.out | apply below_alloc | apply pw_below_drewN | apply below_drew1 | refine below_set ?_ GE114.out | refine below_set ?_ GE115.out) | exact HB.out)))); (case aL => have := LMc2.out; omega); intro v117 w7 ho hb hg hat; rw [← Ny116.out] at ho; replace BK114 := Aside0.mk (blk_grown (g := gb114) (o := .cells #[.slice A0_0 l0_0.length c0_0] 30 (0, 0)) (zN BK114) hg (by simp [Value.ownBlock])); replace BK115 := Aside0.mk (blk_grown (g := gb115) (o := .cells #[.slice none 0 0] 30 (0, 0)) (zN BK115) hg (by simp [Value.ownBlock])); replace HB := Aside0.mk (hb); have HO118 := Aside0.mk (ho); clear ho hb hg hat; obtain ⟨Ao8, co8, eo8⟩ := Kd.R_slice HO118.out; subst eo8; obtain ⟨hcz9_0, hfz9_0⟩ := ba1 BK115))
   refine bodyPost_ret (results_cell_row rfl _ _ gb115 30 #[.slice Ao8 y116.length co8] (0, 0) _ rfl (zP BK115) Try.underlying30 rfl (by kernel_rfl)) rfl ?_
   exact ⟨_, by first | rfl | (simp [errW_none, errW_some] <;> rfl) | (simp [*, errW_none, errW_some] <;> rfl), by (with_reducible repeat (first | apply Kd.R_alloc | apply Kd.R_drewN | apply Kd.R_drew)); exact Kd.R_mono (Kd.R_far (p := ⟨gb115, 0, none⟩) (Kd.R_types HO118.out BK115.out (by decide)) (fun _ hk => hk.2) (.slice Ao8 y116.length co8)) (fun _ hk => trivial), by repeat (first | (with_reducible first | exact HB.out | apply below_alloc | apply pw_below_drewN | apply below_drew1 | refine below_set ?_ GE114.out | refine below_set ?_ GE115.out) | exact HB.out)⟩
 · rw [if_neg c2] at H; exact absurd H (by simp)

/-! ### impl_File_118: function 118 -/
/-- The cells of a row. -/
def sl_File.flat (xs : List S71) : List Value := xs.flatMap fun x => [.string x.f0, .string x.f1]
theorem sl_File.flat_len (xs : List S71) : (sl_File.flat xs).length = xs.length * 2 := by
 induction xs with
 | nil => rfl
 | cons x xs ih =>
  show ([Value.string x.f0, Value.string x.f1] ++ sl_File.flat xs).length = _
  rw [List.length_append, ih, List.length_cons]; simp only [List.length_cons, List.length_nil]
  omega
theorem sl_File.flat_append (xs ys : List S71) : sl_File.flat (xs ++ ys) = sl_File.flat xs ++ sl_File.flat ys := List.flatMap_append
theorem sl_File.flat_take (xs : List S71) (n : Nat) : (sl_File.flat xs).take (n * 2) = sl_File.flat (xs.take n) := by
 by_cases h : n ≤ xs.length
 · have e := sl_File.flat_append (xs.take n) (xs.drop n); rw [List.take_append_drop] at e; rw [e]; exact List.take_left' (by rw [sl_File.flat_len, List.length_take]; omega)
 · rw [List.take_of_length_le (by rw [sl_File.flat_len]; omega), List.take_of_length_le (by omega)]
theorem sl_File.flat_drop (xs : List S71) (n : Nat) : (sl_File.flat xs).drop (n * 2) = sl_File.flat (xs.drop n) := by
 by_cases h : n ≤ xs.length
 · have e := sl_File.flat_append (xs.take n) (xs.drop n); rw [List.take_append_drop] at e; rw [e]; exact List.drop_left' (by rw [sl_File.flat_len, List.length_take]; omega)
 · rw [List.drop_eq_nil_of_le (by rw [sl_File.flat_len]; omega), List.drop_eq_nil_of_le (by omega)]; rfl
theorem sl_File.flat_one (xs : List S71) : ∀ v ∈ sl_File.flat xs, v.oneCell' = true := by
 intro v hv; obtain ⟨x, _, hx⟩ := List.mem_flatMap.1 hv; simp only [List.mem_cons, List.not_mem_nil, or_false] at hx
 rcases hx with rfl | rfl <;> rfl
theorem sl_File.flat_of {R : S71 → List Value → Prop} (hR : ∀ x cs, R x cs → cs = [.string x.f0, .string x.f1]) : ∀ (xs : List S71) (cs : List Value), Reps R 2 xs cs → cs = sl_File.flat xs
 | [], cs, h => List.eq_nil_of_length_eq_zero (by have := h.1; simpa using this)
 | x :: xs, cs, h => by
  have h0 := hR _ _ (h.2 0 x rfl); rw [Nat.zero_mul, List.drop_zero] at h0
  have h1 : Reps R 2 xs (cs.drop 2) := ⟨by rw [List.length_drop, h.1, List.length_cons]; omega, fun j p hj => by
   have := h.2 (j + 1) p (by simpa using hj)
   rwa [List.drop_drop, show 2 + j * 2 = (j + 1) * 2 by omega]⟩
  rw [← List.take_append_drop 2 cs, h0, sl_File.flat_of hR xs _ h1]; rfl
theorem sl_File.reps_of {R : S71 → List Value → Prop} (hR : ∀ x, R x [.string x.f0, .string x.f1]) (xs : List S71) : Reps R 2 xs (sl_File.flat xs) := by
 refine ⟨sl_File.flat_len xs, fun j p hj => ?_⟩
 obtain ⟨hlt, rfl⟩ := List.getElem?_eq_some_iff.1 hj; rw [sl_File.flat_drop, List.drop_eq_getElem_cons hlt]; exact hR _
theorem sl_File.open_ {w : World} {base g n cap : Nat} {ok : Nat → Prop} {xs : List S71} (h : Kd.R k71 71 w base ok (.slice (some ⟨g, 0, none⟩) n cap) xs) :
 ok g ∧ base ≤ g ∧ n = xs.length ∧ n ≤ cap ∧ cap ≤ maxLen ∧ ∃ cur, w.heap[g]? = some (.cells cur 71 (0, 0)) ∧ cur.size = cap * 2 ∧ cur.toList.take (n * 2) = sl_File.flat xs := by
 obtain ⟨hok, inner, ⟨hl, ho⟩, hr⟩ := h
 rcases ho with ⟨hv, _⟩ | ⟨g', cap', cur, hv, hb, hh, hnc, hcm, hcs, htake⟩
 · cases hv
 · injection hv with ha hn hc; injection ha with ha; injection ha with hg; subst hg; subst hc; subst hn
   exact ⟨hok g rfl, hb, rfl, hnc, hcm, cur, hh, hcs, by
    rw [show (2 : Nat) = k71.sz from rfl, htake]; exact sl_File.flat_of (fun x cs hx => k71_openM hx) xs inner hr⟩
theorem sl_File.close_ {w : World} {base g n cap : Nat} {ok : Nat → Prop} {xs : List S71} (h0 : ok g) (h1 : base ≤ g) (h2 : n = xs.length) (h3 : n ≤ cap) (h4 : cap ≤ maxLen) {cur : Array Value} (h5 : w.heap[g]? = some (.cells cur 71 (0, 0))) (h6 : cur.size = cap * 2) (h7 : cur.toList.take (n * 2) = sl_File.flat xs) :
 Kd.R k71 71 w base ok (.slice (some ⟨g, 0, none⟩) n cap) xs := by
 subst h2; refine ⟨fun k hk => ?_, sl_File.flat xs, ⟨sl_File.flat_len xs, .inr ⟨g, cap, cur, rfl, h1, h5, h3, h4, h6, h7⟩⟩, sl_File.reps_of (fun x => k71_mkM _ _ _ x) xs⟩
 simp [Value.ownBlock] at hk
 exact hk ▸ h0
def impl_File_118.f (l0 : List S71) (a1 : Int) (l2 : List S71) : Option (List S71) := if 0 ≤ a1 ∧ a1 ≤ l0.length ∧ l2.length = 1 ∧ l0.length ≤ 1048576 then some (l0.take a1.toNat ++ l2 ++ l0.drop a1.toNat) else none
/-- A copy between rows of two cells an element. -/
theorem sl_File.copy_run {P : Program} (w : World) (dT sT ty elem : TypeId) (b o dLen dCap : Nat) (a : Addr) (sLen sCap : Nat) (cs : List Value)
 (hu : P.underlying dT = some (.slice elem)) (hs : (P.info? elem).map (·.size) = some 2) (hn : cs.length = Nat.min sLen dLen * 2)
 (hsrc : ∀ j v, cs[j]? = some v → w.cell? (a.add j) = some v) (hc : ∀ j, j < cs.length → (w.cell? ⟨b, o + j, none⟩).isSome = true) (hf : ∀ j, j < cs.length → w.frozen? ⟨b, o + j, none⟩ = false) (h1 : ∀ v ∈ cs, v.oneCell' = true) :
 (Builtin.copy_ #[dT, sT] ty #[.slice (some ⟨b, o, none⟩) dLen dCap, .slice (some a) sLen sCap]).run P w = .ok (goInt (Nat.min sLen dLen)) (w.setCells b o cs) := by
 have hl := run_loadCells_list (P := P) w a cs hsrc; have hst := run_storeCells_cells (P := P) b o cs 0 w (by simpa using hc) (by simpa using hf) h1
 cases hq : P.info? elem with
 | none => simp [hq] at hs
 | some i =>
  have hi : i.size = 2 := by simpa [hq] using hs
  simp [Builtin.copy_, run_underlying hu, Builtin.lenOf, Builtin.firstCells, sizeOf, typeInfo, hq, hi, ← hn, hl, hst]
/-- What a copy into a row leaves. -/
theorem sl_File.copy_to {P : Program} (w : World) (L e : TypeId) (g o dLen : Nat) (a : Addr) (sLen m : Nat) (cs : List Value) (cur : Array Value)
 (hu : P.underlying L = some (.slice e)) (hs : (P.info? e).map (·.size) = some 2) (hm : Nat.min sLen dLen = m) (hn : cs.length = m * 2)
 (hsrc : ∀ j v, cs[j]? = some v → w.cell? (a.add j) = some v) (hh : w.heap[g]? = some (.cells cur e (0, 0))) (hfit : o + cs.length ≤ cur.size) (h1 : ∀ v ∈ cs, v.oneCell' = true) :
 ∃ w1, (∀ ty dCap sCap, (Builtin.copy_ #[L, L] ty #[.slice (some ⟨g, o, none⟩) dLen dCap, .slice (some a) sLen sCap]).run P w = .ok (goInt m) w1) ∧ w.grownBy w1 (some g) ∧
  ∃ cur', w1.heap[g]? = some (.cells cur' e (0, 0)) ∧ cur'.size = cur.size ∧ cur'.toList = cur.toList.take o ++ cs ++ cur.toList.drop (o + cs.length) := by
 obtain ⟨s1, s2, s3, s4⟩ := setCells_same g cs o w; refine ⟨w.setCells g o cs, fun ty dCap sCap => ?_, ⟨s1, s2, s3, by rw [s4]; exact Nat.le_refl _, fun k _ hk => setCells_far _ _ k (fun he => hk (by rw [he]))⟩, setCells_row cs o w cur hh hfit⟩
 have := sl_File.copy_run (P := P) w L L ty e g o dLen dCap a sLen sCap cs hu hs (by rw [hm]; exact hn) hsrc (fun j hj => by
  rw [cell_of_row w g _ cur e (0, 0) hh, Array.getElem?_eq_getElem (by omega)]; rfl) (fun j _ => blk_frozen hh _) h1
 rw [hm] at this; exact this
theorem sl_File.src_of {w : World} {g k : Nat} {cur : Array Value} {e : TypeId} (hh : w.heap[g]? = some (.cells cur e (0, 0))) {cs : List Value} {o : Nat} (h : (cur.toList.drop o).take cs.length = cs) : ∀ j v, cs[j]? = some v → w.cell? ((⟨g, o, none⟩ : Addr).add j) = some v := fun j v hj => by
 rw [add_at, cell_of_row w g _ cur e (0, 0) hh]; rw [← h] at hj; rw [List.getElem?_take] at hj
 split at hj
 · rw [List.getElem?_drop] at hj; rw [← hj, Array.getElem?_toList]
 · cases hj
set_option maxHeartbeats 8000000 in
set_option maxRecDepth 100000 in
theorem impl_File_118.calls (P0_ : Nat → Prop) (u9000_ : Value) (l0 : List S71) (a1 : Int) (P2_ : Nat → Prop) (u9001_ : Value) (l2 : List S71) (r : List S71) (w0 w : World) (hB : Below w0.heap.size w0 w) (ho0 : Kd.R k71 71 w w0.heap.size P0_ u9000_ l0) (hp0_2 : ∀ k_, P0_ k_ → ¬ P2_ k_) (ho2 : Kd.R k71 71 w w0.heap.size P2_ u9001_ l2) (hp2_0 : ∀ k_, P2_ k_ → ¬ P0_ k_) (h : impl_File_118.f l0 a1 l2 = some r) :
 Calls Try.prog 118 #[u9000_, .int .i64 a1, u9001_] w fun e w' => ∃ v0_ : Value, e = .returned v0_ ∧ Kd.R k71 71 w' w0.heap.size (fun k_ => ((P0_ k_ ∨ P2_ k_) ∨ w.heap.size ≤ k_)) v0_ r ∧ Below w0.heap.size w0 w' ∧ Kept w w' (fun k_ => P0_ k_ ∨ P2_ k_) := by
 have hu71 := Try.underlying71; have hu28 := Try.underlying28; have hu3 := Try.underlying3
 unfold impl_File_118.f at h
 by_cases hc : 0 ≤ a1 ∧ a1 ≤ l0.length ∧ l2.length = 1 ∧ l0.length ≤ 1048576
 rotate_left
 · rw [if_neg hc] at h; exact absurd h (by simp)
 rw [if_pos hc] at h; obtain rfl := Option.some.inj h; clear h; obtain ⟨hc0, hc1, hl2, hbig⟩ := hc; obtain ⟨i, rfl⟩ := Int.eq_ofNat_of_zero_le hc0; rw [Int.toNat_natCast]; obtain ⟨vb, vc, rfl, hv0, hv1, -⟩ := Kd.R_form ho2 (by omega); rw [hl2] at ho2 ⊢; obtain ⟨vok, -, -, vnc, vcm, vcur, vh, vcs, vtk⟩ := sl_File.open_ ho2; have hBS := hB.size; have hro : ∀ k_, (u9000_ : Value).ownBlock = some k_ → P0_ k_ := ho0.1; have m1 : ¬ ((1 : Int) = 0) := by omega
 have mixed : Try.prog.follows .mixedOrders = true := by kernel_rfl
 by_cases hin : i = l0.length
 · subst hin; rw [List.take_length, List.drop_length, List.append_nil]; have HO := Aside0.mk (Kd.R_mono ho0 (ok' := fun k_ => (P0_ k_ ∨ P2_ k_) ∨ w.heap.size ≤ k_) (fun k h => Or.inl (Or.inl h))); have HV : Aside0 (Kd.C k71 w (some ⟨vb, 0, none⟩) 1 l2) := Aside0.mk (by have := (Kd.R_reads' ho2).2.2; rw [hl2] at this; exact this); have HBB := Aside0.mk hB; have HRO := Aside0.mk hro; obtain ⟨-, inner, ⟨-, hform⟩, -⟩ := ho0; have hlb : (l0.length + 1) * 32 ≤ 140737488355328 := by omega
   have hwB : w0.heap.size ≤ w.heap.size := hBS; clear hro hB ho2 hc0 hc1 vtk vcs vh hl2
   rcases hform with ⟨rfl, h0⟩ | ⟨g, cap, cur, rfl, -, -, hnc, hcm, -, -⟩
   · have hl0 : l0 = [] := List.eq_nil_of_length_eq_zero h0; subst hl0; clear h0; go_enter Try.func118, Try.ntmps118
     go_wp2_with ((with_reducible refine gate_builtin (b := .append) (xs := #[.tmp 23, .tmp 24]) rfl ?_); at_builtin; refine Kd.R_append_rows k71 (w0 := w0) w0.heap.size rfl (.tmp 23) (.tmp 24) 28 71 (.agg #[(.string ⟨#[]⟩), (.string ⟨#[]⟩)]) 32 rfl Try.underlying28 info71 rfl (by decide) (by omega) (.slice none 0 0) [] l2 _ _ _ (fun k_ => (P0_ k_ ∨ P2_ k_) ∨ w.heap.size ≤ k_) (fun _ => False) rfl rfl HO.out HV.out (fun _ _ h => h) (fun _ h => h.elim) (fun _ h => Or.inr h) HBB.out hwB hlb ?_; intro v1 w1 h1 hB1 hg1 hat1; have n0_ := Aside0.mk h1; have n1_ := Aside0.mk hB1; have n2_ := Aside0.mk hg1; clear h1 hB1 hg1 hat1)
     go_ret; exact ⟨_, rfl, n0_.out, n1_.out, n2_.out.size, fun k hk hn => n2_.out.block k hk (by simp [Value.ownBlock])⟩
   · have hmx : cap ≤ 9223372036854775807 := hcm; have b1 : (l0.length : Int) ≤ (cap : Int) := by omega
     generalize hN : l0.length = n at *; have HN := Aside0.mk hN; clear hN; go_enter Try.func118, Try.ntmps118
     go_wp2_with ((with_reducible refine gate_builtin (b := .append) (xs := #[.tmp 23, .tmp 24]) rfl ?_); at_builtin; refine Kd.R_append_rows k71 (w0 := w0) w0.heap.size rfl (.tmp 23) (.tmp 24) 28 71 (.agg #[(.string ⟨#[]⟩), (.string ⟨#[]⟩)]) 32 rfl Try.underlying28 info71 rfl (by decide) (by omega) _ l0 l2 _ _ _ (fun k_ => (P0_ k_ ∨ P2_ k_) ∨ w.heap.size ≤ k_) (fun _ => False) rfl rfl HO.out HV.out (fun _ _ h => h) (fun _ h => h.elim) (fun _ h => Or.inr h) HBB.out hwB (by rw [HN.out]; exact hlb) ?_; intro v1 w1 h1 hB1 hg1 hat1; have n0_ := Aside0.mk h1; have n1_ := Aside0.mk hB1; have n2_ := Aside0.mk hg1; clear h1 hB1 hg1 hat1)
     all_goals
      go_ret; exact ⟨_, rfl, n0_.out, n1_.out, n2_.out.size, fun k hk hn => n2_.out.block k hk (fun e => hn (Or.inl (HRO.out k e.symm)))⟩
 have hi : i < l0.length := by omega
 obtain ⟨g, cap, rfl, hg0, hg1, -⟩ := Kd.R_form ho0 (by omega); obtain ⟨hok, -, -, hnc, hcm, cur, hh, hcs, htk⟩ := sl_File.open_ ho0; have hgv : vb ≠ g := fun e => hp0_2 g hok (e ▸ vok)
 have hinfo : (Try.prog.info? 71).map (·.size) = some 2 := by
  obtain ⟨i0, h1, h2⟩ := Option.map_eq_some_iff.1 info71; rw [h1]; simp only [Prod.mk.injEq] at h2; rw [Option.map_some, h2.2.1]
 have hfl2 : (sl_File.flat l2).length = 2 := by rw [sl_File.flat_len, hl2]
 have hfd : (sl_File.flat (l0.drop i)).length = (l0.length - i) * 2 := by rw [sl_File.flat_len, List.length_drop]
 have hsrcv : (vcur.toList.drop 0).take (sl_File.flat l2).length = sl_File.flat l2 := by rw [hfl2, List.drop_zero, ← vtk]
 have hsrcd : (cur.toList.drop (i * 2)).take (sl_File.flat (l0.drop i)).length = sl_File.flat (l0.drop i) := by
  rw [hfd, ← sl_File.flat_drop, ← htk, List.drop_take, show l0.length * 2 - i * 2 = (l0.length - i) * 2 by omega]
 have htki : cur.toList.take (i * 2) = sl_File.flat (l0.take i) := by
  rw [← sl_File.flat_take, ← htk, List.take_take, Nat.min_eq_left (by omega)]
 generalize hn : l0.length = n at *; have hmx : cap ≤ 9223372036854775807 := hcm
 have hlen : (l0.take i ++ l2 ++ l0.drop i).length = n + 1 := by
  rw [List.length_append, List.length_append, List.length_take, List.length_drop, hl2, hn]
  omega
 by_cases hroom : n + 1 ≤ cap
 · have hcurs : (n + 1) * 2 ≤ cur.size := by omega
   obtain ⟨w1, hr1, hg1', cur1, hh1, hc1s, hc1l⟩ := sl_File.copy_to (P := Try.prog) w.drew 28 71 g ((i + 1) * 2) (n - i) ⟨g, i * 2, none⟩ (n + 1 - i) (n - i) (sl_File.flat (l0.drop i)) cur Try.underlying28 hinfo
    t105_ hfd (sl_File.src_of (k := 0) hh hsrcd) hh (by rw [hfd]; omega) (sl_File.flat_one _)
   have vh1 : w1.heap[vb]? = some (.cells vcur 71 (0, 0)) := (hg1'.block vb hv1 (fun e => hgv (by injection e))).trans vh
   obtain ⟨w2, hr2, hg2', cur2, hh2, hc2s, hc2l⟩ := sl_File.copy_to (P := Try.prog) w1 28 71 g (i * 2) (n + 1 - i) ⟨vb, 0, none⟩ 1 1 (sl_File.flat l2) cur1 Try.underlying28 hinfo
    t105_ (by rw [hfl2]) (sl_File.src_of (k := 0) vh1 hsrcv) hh1 (by rw [hfl2]; omega) (sl_File.flat_one _)
   have hfar : ∀ k, k ≠ g → k < w.heap.size → w2.heap[k]? = w.heap[k]? := fun k hk hlt =>
    (hg2'.block k (Nat.lt_of_lt_of_le hlt hg1'.size) (fun e => hk (by injection e))).trans (hg1'.block k hlt (fun e => hk (by injection e)))
   have R2 : Aside0 (Kd.R k71 71 w2 w0.heap.size (fun k_ => ((P0_ k_ ∨ P2_ k_) ∨ w.heap.size ≤ k_)) (.slice (some ⟨g, 0, none⟩) (n + 1) cap) (l0.take i ++ l2 ++ l0.drop i)) := Aside0.mk <| by
    refine sl_File.close_ (Or.inl (Or.inl hok)) hg0 hlen.symm hroom hcm hh2 (by rw [hc2s, hc1s, hcs]) ?_
    have e1 : cur1.toList.take (i * 2) = sl_File.flat (l0.take i) := by
     rw [hc1l, List.append_assoc, List.take_append_of_le_length (by rw [List.length_take, Array.length_toList]; omega), List.take_take, Nat.min_eq_left (by omega), htki]
    have e2 : (cur1.toList.drop (i * 2 + 2)).take ((n - i) * 2) = sl_File.flat (l0.drop i) := by
     rw [hc1l, List.append_assoc, List.drop_append_of_le_length (by rw [List.length_take, Array.length_toList]; omega), List.drop_eq_nil_of_le (by rw [List.length_take, Array.length_toList]; omega), List.nil_append, List.take_left' hfd]
    rw [hc2l, hfl2, e1, sl_File.flat_append, sl_File.flat_append, show (n + 1) * 2 = (i * 2 + 2) + (n - i) * 2 by omega]; have e3 : (sl_File.flat (l0.take i) ++ sl_File.flat l2).length = i * 2 + 2 := by rw [List.length_append, hfl2, sl_File.flat_len, List.length_take, hn]; omega
    rw [← e3, List.take_length_add_append, e3, e2]
   have B2 : Aside0 (Below w0.heap.size w0 w2) := Aside0.mk ⟨hg2'.os.trans (hg1'.os.trans hB.os), hg2'.tape.trans (hg1'.tape.trans hB.tape), hg2'.output.trans (hg1'.output.trans hB.output), Nat.le_trans hBS (Nat.le_trans hg1'.size hg2'.size), fun k hk => (hfar k (by omega) (by omega)).trans (hB.block k hk)⟩; have K2 : Aside0 (Kept w w2 (fun k_ => P0_ k_ ∨ P2_ k_)) := Aside0.mk ⟨Nat.le_trans hg1'.size hg2'.size, fun k hk hP => hfar k (fun e => hP (Or.inl (e ▸ hok))) hk⟩
   have hov : ∀ lb cb, (callFunc 136 #[.slice (some ⟨vb, 0, none⟩) 1 vc, .slice (some ⟨g, (i + 1) * 2, none⟩) lb cb]).run Try.prog w = .ok (.value (.bool false)) w := fun lb cb => by
    rw [run_callFunc_extern Try.func136 (by kernel_rfl) (by kernel_rfl) (by kernel_rfl) (e := Extern.SlicesOverlaps.overlaps #[28, 28] #[4]) (by kernel_rfl),
     Lib.run_overlaps_apart w 28 4 71 Try.underlying28 2 (fun w => by kernel_rfl) ⟨vb, 0, none⟩ ⟨g, (i + 1) * 2, none⟩ 1 vc lb cb hgv 71 71 vcur.size cur.size (by simp [World.shape?, vh]) (by simp [World.shape?, hh]) (by omega) (blk_frozen vh 0) (blk_frozen vh _)]
    rfl
   have b0 : (i : Int) ≤ (cap : Int) := by omega
   have b1 : (i : Int) + 1 ≤ (n : Int) + 1 := by omega
   have b2 : (i : Int) ≤ (n : Int) + 1 := by omega
   have b3 : (n : Int) + 1 ≤ (cap : Int) := by omega
   have b4 : ¬ (cap = i) := by omega
   have b5 : ¬ (cap = i + 1) := by omega
   have b6 : (0 : Int) ≤ (i : Int) + 1 := by omega
   have b7 : ¬ ((i : Int) = (n : Int)) := by omega
   have b8 : ((i : Int) + 1).toNat = i + 1 := by omega
   have b9 : ((n : Int) + 1).toNat = n + 1 := by omega
   have b10 : (0 : Int) ≤ (n : Int) + 1 := by omega
   have b11 : (i : Int) + 1 ≤ (cap : Int) := by omega
   have b12 : (i : Int) ≤ (n : Int) := by omega
   have b13 : ¬ ((cap : Int) < (n : Int) + 1) := by omega
   have hw1 : IntKind.i64.wrap ((i : Int) + 1) = (i : Int) + 1 := by rw [IntKind.wrap_i64]; omega
   have HR1 := Aside0.mk hr1; have HR2 := Aside0.mk hr2; have HOV := Aside0.mk hov; clear hr1 hr2 hov hB ho0 ho2 hh vh hh1 hh2 hc1l hc2l hc1s hc2s htk vtk vcs hcs hsrcv hsrcd htki hfd hfl2 hg1' hg2' hfar vh1 hinfo hcurs hn hlen hin hc1 hro hp0_2 hp2_0 hl2; go_enter Try.func118, Try.ntmps118
   go_wp2_with (simp only [HOV.out])
   go_region_law_o (refine step_copy_runI rfl (.tmp 73) (.tmp 76) 28 28 rfl _ _ (by simp [Act.eval, Act.put]; rfl) (by simp [Act.eval, Act.put]; rfl) (HR1.out _ _ _) ?_)
   go_wp2_with ((with_reducible refine gate_builtin (b := .copy) (xs := #[.tmp 80, .tmp 81]) rfl ?_); refine wpList_copy_runI _ rfl (.tmp 80) (.tmp 81) 28 28 rfl _ _ rfl rfl (HR2.out _ _ _) ?_)
   go_ret; exact ⟨_, rfl, R2.out, B2.out, K2.out⟩
 · obtain rfl : cap = n := by omega
   have hrow : ∃ (W1 : World) (G : Nat) (row : Array Value), (∀ ty, (Builtin.append_ #[28, 3] ty #[.slice (some ⟨g, 0, none⟩) i cap, .int .i64 ((cap : Int) + 1 - (i : Int))]).run Try.prog w = .ok (.slice (some ⟨w.heap.size, 0, none⟩) (cap + 1) G) W1) ∧ cap + 1 ≤ G ∧ G ≤ maxLen ∧ Below w.heap.size w W1 ∧ w.heap.size < W1.heap.size ∧
    W1.heap[w.heap.size]? = some (.cells row 71 (0, 0)) ∧ row.size = G * 2 ∧ row.toList.take (i * 2) = sl_File.flat (l0.take i) := by
    obtain ⟨i0, hi0, hzz⟩ := Option.map_eq_some_iff.1 info71; simp only [Prod.mk.injEq] at hzz; obtain ⟨hz0, hzs, hzb⟩ := hzz; have hfi : (sl_File.flat (l0.take i)).length = i * 2 := by rw [sl_File.flat_len, List.length_take, hn, Nat.min_eq_left (by omega)]
    have hold : (Builtin.firstCells i0.size i (.slice (some ⟨g, 0, none⟩) i cap)).run Try.prog w.drew = .ok (sl_File.flat (l0.take i)).toArray w.drew := by
     rw [hzs]; exact run_firstCells_some w.drew 2 i ⟨g, 0, none⟩ i cap _ hfi (sl_File.src_of (w := w.drew) (k := 0) hh (by rw [hfi, List.drop_zero, htki]))
    have hik : i + (cap + 1 - i) = cap + 1 := by omega
    have hg := grownCap_ge w (cap + 1) cap 71; have hg2 := grownCap_le_maxLen w (cap + 1) cap 71 (by unfold maxLen; omega); refine ⟨w.drew.alloc (.cells ((sl_File.flat (l0.take i)).toArray ++ Builtin.zeroCells (Value.agg #[(.string ⟨#[]⟩), (.string ⟨#[]⟩)]).cells (cap + 1 - i) ++ Builtin.zeroCells (Value.agg #[(.string ⟨#[]⟩), (.string ⟨#[]⟩)]).cells (grownCap w (cap + 1) cap 71 - (cap + 1))) 71), grownCap w (cap + 1) cap 71, (sl_File.flat (l0.take i)).toArray ++ Builtin.zeroCells (Value.agg #[(.string ⟨#[]⟩), (.string ⟨#[]⟩)]).cells (cap + 1 - i) ++ Builtin.zeroCells (Value.agg #[(.string ⟨#[]⟩), (.string ⟨#[]⟩)]).cells (grownCap w (cap + 1) cap 71 - (cap + 1)), fun ty => ?_, hg, hg2, below_alloc (below_drew (Below.refl w.heap.size w)) _, by rw [World.size_alloc]; exact Nat.lt_succ_self _, heap_alloc_new w.drew _, ?_, ?_⟩
    · have h := Lib.run_append_grow_zeros (P := Try.prog) w 28 3 ty 71 i0 _ .i64 .i64 Try.underlying28 hu3 hi0 hz0 (some ⟨g, 0, none⟩) i cap (sl_File.flat (l0.take i)) hold (cap + 1 - i) (by omega) (by omega) (by omega) (by omega) (by rw [hzb]; omega) (by rw [hzb, hik]; exact growslice_fits (by omega) (by omega)); rw [hik] at h; rw [show (cap : Int) + 1 - (i : Int) = ((cap + 1 - i : Nat) : Int) by omega]; exact h
    · have hz2 : (Value.agg #[(.string ⟨#[]⟩), (.string ⟨#[]⟩)]).cells.size = 2 := by decide
      rw [Array.size_append, Array.size_append, size_zeroCells, size_zeroCells, hz2, List.size_toArray, hfi]
      omega
    · rw [Array.toList_append, Array.toList_append, List.append_assoc, List.take_left' hfi]
   obtain ⟨w1, G, row, hr1, hG1, hG2, hb1, hs1, hh1, hrs, hrt⟩ := hrow; have vh1 : w1.heap[vb]? = some (.cells vcur 71 (0, 0)) := (hb1.block vb hv1).trans vh
   obtain ⟨w2, hr2, hg2', cur2, hh2, hc2s, hc2l⟩ := sl_File.copy_to (P := Try.prog) w1 28 71 w.heap.size (i * 2) (cap + 1 - i) ⟨vb, 0, none⟩ 1 1 (sl_File.flat l2) row Try.underlying28 hinfo
    t105_ (by rw [hfl2]) (sl_File.src_of (k := 0) vh1 hsrcv) hh1 (by rw [hfl2]; omega) (sl_File.flat_one _)
   have gh2 : w2.drew.heap[g]? = some (.cells cur 71 (0, 0)) := (hg2'.block g (Nat.lt_of_lt_of_le hg1 hb1.size) (fun e => by injection e; omega)).trans ((hb1.block g hg1).trans hh)
   obtain ⟨w3, hr3, hg3', cur3, hh3, hc3s, hc3l⟩ := sl_File.copy_to (P := Try.prog) w2.drew 28 71 w.heap.size ((i + 1) * 2) (cap + 1 - (i + 1)) ⟨g, i * 2, none⟩ (cap - i) (cap - i) (sl_File.flat (l0.drop i)) cur2 Try.underlying28 hinfo
    t105_ hfd (sl_File.src_of (k := 0) gh2 hsrcd) hh2 (by rw [hfd]; omega) (sl_File.flat_one _)
   have hfar : ∀ k, k < w.heap.size → w3.heap[k]? = w.heap[k]? := fun k hlt =>
    (hg3'.block k (Nat.lt_of_lt_of_le hlt (Nat.le_trans hb1.size hg2'.size)) (fun e => by injection e; omega)).trans ((hg2'.block k (Nat.lt_of_lt_of_le hlt hb1.size) (fun e => by injection e; omega)).trans (hb1.block k hlt))
   have hsize : w.heap.size ≤ w3.heap.size := Nat.le_trans hb1.size (Nat.le_trans hg2'.size hg3'.size)
   have R2 : Aside0 (Kd.R k71 71 w3 w0.heap.size (fun k_ => ((P0_ k_ ∨ P2_ k_) ∨ w.heap.size ≤ k_)) (.slice (some ⟨w.heap.size, 0, none⟩) (cap + 1) G) (l0.take i ++ l2 ++ l0.drop i)) := Aside0.mk <| by
    refine sl_File.close_ (Or.inr (Nat.le_refl _)) hBS hlen.symm hG1 hG2 hh3 (by rw [hc3s, hc2s, hrs]) ?_
    have e1 : cur2.toList.take ((i + 1) * 2) = sl_File.flat (l0.take i) ++ sl_File.flat l2 := by
     have e3 : (row.toList.take (i * 2) ++ sl_File.flat l2).length = (i + 1) * 2 := by rw [List.length_append, hfl2, List.length_take, Array.length_toList]; omega
     rw [hc2l, List.take_left' e3, hrt]
    have e4 : (sl_File.flat (l0.take i) ++ sl_File.flat l2 ++ sl_File.flat (l0.drop i)).length = (cap + 1) * 2 := by rw [List.length_append, List.length_append, hfl2, hfd, sl_File.flat_len, List.length_take, hn]; omega
    rw [hc3l, e1, List.take_left' e4, sl_File.flat_append, sl_File.flat_append]
   have B2 : Aside0 (Below w0.heap.size w0 w3) := Aside0.mk ⟨hg3'.os.trans (hg2'.os.trans (hb1.os.trans hB.os)), hg3'.tape.trans (hg2'.tape.trans (hb1.tape.trans hB.tape)), hg3'.output.trans (hg2'.output.trans (hb1.output.trans hB.output)), Nat.le_trans hBS hsize, fun k hk => (hfar k (by omega)).trans (hB.block k hk)⟩; have K2 : Aside0 (Kept w w3 (fun k_ => P0_ k_ ∨ P2_ k_)) := Aside0.mk ⟨hsize, fun k hk hP => hfar k hk⟩; have hmG : G ≤ 9223372036854775807 := hG2; have b0 : (i : Int) ≤ (cap : Int) := by omega
   have b1 : (i : Int) + 1 ≤ (cap : Int) + 1 := by omega
   have b2 : (i : Int) ≤ (cap : Int) + 1 := by omega
   have b4 : ¬ (G = i) := by omega
   have b5 : ¬ (G = i + 1) := by omega
   have b14 : ¬ (cap = i) := by omega
   have b6 : (0 : Int) ≤ (i : Int) + 1 := by omega
   have b7 : ¬ ((i : Int) = (cap : Int)) := by omega
   have b8 : ((i : Int) + 1).toNat = i + 1 := by omega
   have b10 : (0 : Int) ≤ (cap : Int) + 1 := by omega
   have b13 : (cap : Int) < (cap : Int) + 1 := by omega
   have b15 : (0 : Int) ≤ (cap : Int) + 1 - (i : Int) := by omega
   have hw1 : IntKind.i64.wrap ((i : Int) + 1) = (i : Int) + 1 := by rw [IntKind.wrap_i64]; omega
   have HR1 := Aside0.mk hr1; have HR2 := Aside0.mk hr2; have HR3 := Aside0.mk hr3; clear hr1 hr2 hr3 hB ho0 ho2 hh vh hh1 hh2 hh3 hc2l hc3l hc2s hc3s htk vtk vcs hcs hsrcv hsrcd htki hfd hfl2 hb1 hg2' hg3' hfar vh1 gh2 hinfo hn hlen hin hc1 hro hp0_2 hp2_0 hl2 hs1 hrs hrt hsize; go_enter Try.func118, Try.ntmps118
   go_wp2_with (first | ((with_reducible refine gate_builtin (b := .append) (xs := #[.tmp 34, .tmp 39]) rfl ?_); at_builtin; refine Lib.wpList_append_run _ rfl _ _ _ _ rfl _ _ rfl rfl _ _ (HR1.out _) ?_) | ((with_reducible refine gate_builtin (b := .copy) (xs := #[.tmp 43, .tmp 44]) rfl ?_); refine wpList_copy_runI _ rfl (.tmp 43) (.tmp 44) 28 28 rfl _ _ rfl rfl (HR2.out _ _ _) ?_))
   go_region_law_o (refine step_copy_runI rfl (.tmp 50) (.tmp 53) 28 28 rfl _ _ (by simp [Act.eval, Act.put]; rfl) (by simp [Act.eval, Act.put]; rfl) (HR3.out _ _ _) ?_)
   go_wp2; go_ret; exact ⟨_, rfl, R2.out, B2.out, K2.out⟩

end Go.Proofs.Ytpjhbhjmaggheaa.QFnTorn
