-- By a program of this session, over the kit's print.
import Derived.Test.YtpjhbhjmaggheaaQFnExactMapDox0
namespace Go.Proofs.Ytpjhbhjmaggheaa.QFnExactMapDo
open Go.RowKit Go.Proofs.YtpjhbhjmaggheaaW.PrintWords Go.Proofs.YtpjhbhjmaggheaaW.PrintLast Go.Proofs.YtpjhbhjmaggheaaW.PrintMore
attribute [local go_sem] max2_int min2_int max_two min_two max_three min_three max_four min_four   -- for this text's walks alone
set_option linter.unusedVariables false
set_option linter.unusedSimpArgs false

/-! ### impl_within: function 60 -/
def impl_within.f (a0 : Int) (a1 : Int) (a2 : Int) : Option (Bool) := if a0 ≥ a1 then (some (decide (a0 ≤ a2))) else (some false)
set_option maxHeartbeats 8000000 in
set_option maxRecDepth 100000 in
theorem impl_within.calls (a0 : Int) (a1 : Int) (a2 : Int) (r : Bool) (w : World) (h : impl_within.f a0 a1 a2 = some r) :
    Calls Try.prog 60 #[.int .i64 a0, .int .i64 a1, .int .i64 a2] w fun e w' => e = .returned (.bool r) ∧ Drawn0 w w' := by
  have H : (if a0 ≥ a1 then (some (decide (a0 ≤ a2))) else (some false)) = some r := h
  clear h
  by_cases c4 : a0 ≥ a1
  · rw [if_pos c4] at H
    have c4b0 : decide (a1 ≤ a0) = true := decide_eq_true c4
    clear c4
    obtain rfl := Option.some.inj H
    go_enter Try.func60, Try.ntmps60
    go_wp2
    go_ret
    exact ⟨by first | rfl | (simp; done) | (simp [*]; done), t23_⟩
  · rw [if_neg c4] at H
    have c4b0 : decide (a1 ≤ a0) = false := decide_eq_false c4
    clear c4
    obtain rfl := Option.some.inj H
    go_enter Try.func60, Try.ntmps60
    go_wp2
    go_ret
    exact ⟨by first | rfl | (simp; done) | (simp [*]; done), t23_⟩

/-! ### impl_keyOk: function 105 -/
def impl_keyOk.f (a0 : ByteArray) : Option (Bool) := (impl_within.f (a0.size : Int) 1 10).bind fun t101 => (some t101)
set_option maxHeartbeats 8000000 in
set_option maxRecDepth 100000 in
theorem impl_keyOk.calls (a0 : ByteArray) (r : Bool) (w : World) (h : impl_keyOk.f a0 = some r) :
    Calls Try.prog 105 #[.string a0] w fun e w' => e = .returned (.bool r) ∧ Drawn0 w w' := by
  have H : ((impl_within.f (a0.size : Int) 1 10).bind fun t101 => (some t101)) = some r := h
  clear h
  replace H := Option.bind_eq_some_iff.mp H
  obtain ⟨t101, A20, H⟩ := H
  replace H : (some t101) = some r := H
  have A2 := Aside0.mk A20
  clear A20
  obtain rfl := Option.some.inj H
  go_enter Try.func105, Try.ntmps105
  go_wp2_with (first | ((with_reducible refine gate_callee (f := 60) rfl ?_); refine goesL_ (some 5) rfl rfl Try.func60 (by kernel_rfl) rfl #[.int .i64 (a0.size : Int), .int .i64 1, .int .i64 10] rfl t7_ ?_; (with_reducible refine (impl_within.calls (a0.size : Int) 1 10 t101 _ A2.out).mono ?_); rintro e w' ⟨rfl, ⟨nd, rfl⟩⟩; refine ⟨_, rfl, ?_⟩))
  go_ret
  exact ⟨by first | rfl | (simp; done) | (simp [*]; done), t23_⟩

/-! ### impl_MapOk: function 70 -/
def impl_MapOk.l0 : Nat → List (S59) → List (S59) → Int → Int → Option (Bool)
  | 0, _, _, _, _ => none
  | k + 1, x0, x5, x6, x7 => if x7 < x6 then (if 0 ≤ x7 then (if x7 < (x5.length : Int) then ((impl_keyOk.f ((rd_T59 x5 x7).f0)).bind fun t104 => (if t104 = true then (if (((rd_T59 x5 x7).f1).size : Int) > 40 then (some false) else (if x7 > 0 then (if 0 ≤ (wrap64 (x7 - 1)) then (if (wrap64 (x7 - 1)) < (x0.length : Int) then (if ((Op.bytesLess (((rd_T59 x0 (wrap64 (x7 - 1))).f0).toList) (((rd_T59 x5 x7).f0).toList)) = true) then (impl_MapOk.l0 k x0 x5 x6 (wrap64 (x7 + 1))) else (some false)) else (none)) else (none)) else (impl_MapOk.l0 k x0 x5 x6 (wrap64 (x7 + 1))))) else (some false))) else (none)) else (none)) else (some (decide ((x0.length : Int) ≤ 60)))
def impl_MapOk.f (k : Nat) (l0 : List (S59)) : Option (Bool) := impl_MapOk.l0 k l0 l0 (l0.length : Int) 0
theorem impl_MapOk.mono_l : ∀ k, (∀ y0 y1 y2 y3, LeO (impl_MapOk.l0 k y0 y1 y2 y3) (impl_MapOk.l0 (k + 1) y0 y1 y2 y3))
  | 0 => fun _ _ _ _ r h => by simp [impl_MapOk.l0] at h
  | k + 1 => by
    have ih0 := impl_MapOk.mono_l k
    · intro y0 y1 y2 y3
      unfold impl_MapOk.l0
      repeat' first
      | (with_reducible exact ih0 _ _ _ _)
      | (with_reducible exact LeO.refl _)
      | (with_reducible exact LeO.none _)
      | (with_reducible refine LeO.ite ?_ ?_)
      | (with_reducible refine LeO.bind ?_ (fun _ => ?_))
      | exact ih0 _ _ _ _
      | exact LeO.none _
      | refine LeO.ite ?_ ?_
      | refine LeO.bind ?_ (fun _ => ?_)
theorem impl_MapOk.mono : ∀ a0 k, LeO (impl_MapOk.f k a0) (impl_MapOk.f (k + 1) a0) := by
  intro a0 k
  have ih0 := impl_MapOk.mono_l k
  unfold impl_MapOk.f
  repeat' first
      | (with_reducible exact ih0 _ _ _ _)
      | (with_reducible exact LeO.refl _)
      | (with_reducible exact LeO.none _)
      | (with_reducible refine LeO.ite ?_ ?_)
      | (with_reducible refine LeO.bind ?_ (fun _ => ?_))
      | exact ih0 _ _ _ _
      | exact LeO.none _
      | refine LeO.ite ?_ ?_
      | refine LeO.bind ?_ (fun _ => ?_)
set_option maxHeartbeats 8000000 in
set_option maxRecDepth 100000 in
theorem impl_MapOk.calls (k : Nat) (A0 : Option Addr) (c0 : Nat) (l0 : List (S59)) (r : Bool) (w : World) (hr0 : Kd.C k59 w A0 l0.length l0) (hc0 : l0.length ≤ c0) (h : impl_MapOk.f k l0 = some r) :
    Calls Try.prog 70 #[.slice A0 l0.length c0] w fun e w' => e = .returned (.bool r) ∧ Below w.heap.size w w' := by
  have hu59 := Try.underlying59
  have HR0 := Aside0.mk hr0
  have HC0 := Aside0.mk hc0
  clear hr0 hc0
  have HB := Aside0.mk (Below.refl w.heap.size w)
  have H : (impl_MapOk.l0 k l0 l0 (l0.length : Int) 0) = some r := h
  clear h
  have H' := Aside0.mk H
  clear H
  go_enter Try.func70, Try.ntmps70
  go_wp2
  repeat (go_quiet (fail); try go_wp2)
  go_loopg [7] k (fun kq v7 w' => ∃ (x7_1 : Int), v7 = .int .i64 x7_1 ∧ Aside0 (impl_MapOk.l0 kq l0 l0 (l0.length : Int) x7_1 = some r) ∧ Aside0 (kq ≤ k) ∧ Aside0 (Below w.heap.size w w'))
  case atStart => exact ⟨(0), t10_, H', ⟨Nat.le_refl _⟩, ⟨t0_⟩⟩
  case round =>
    clear H'
    obtain ⟨x7_1, rfl, HA, HK1, HB⟩ := hrel
    cases gk with
    | zero => exact absurd HA.out (by simp [impl_MapOk.l0])
    | succ k1 =>
      have H := HA.out
      clear HA
      simp only [impl_MapOk.l0] at H
      by_cases c2 : x7_1 < (l0.length : Int)
      · rw [if_pos c2] at H
        have c2b0 : decide (x7_1 < (l0.length : Int)) = true := decide_eq_true c2
        clear c2
        by_cases c3 : 0 ≤ x7_1
        · rw [if_pos c3] at H
          have c3b0 : decide (0 ≤ x7_1) = true := decide_eq_true c3
          clear c3
          by_cases c4 : x7_1 < (l0.length : Int)
          · rw [if_pos c4] at H
            have c4b0 : decide (x7_1 < (l0.length : Int)) = true := decide_eq_true c4
            clear c4
            replace H := Option.bind_eq_some_iff.mp H
            obtain ⟨t104, A50, H⟩ := H
            replace H : (if t104 = true then (if (((rd_T59 l0 x7_1).f1).size : Int) > 40 then (some false) else (if x7_1 > 0 then (if 0 ≤ (wrap64 (x7_1 - 1)) then (if (wrap64 (x7_1 - 1)) < (l0.length : Int) then (if ((Op.bytesLess (((rd_T59 l0 (wrap64 (x7_1 - 1))).f0).toList) (((rd_T59 l0 x7_1).f0).toList)) = true) then (impl_MapOk.l0 k1 l0 l0 (l0.length : Int) (wrap64 (x7_1 + 1))) else (some false)) else (none)) else (none)) else (impl_MapOk.l0 k1 l0 l0 (l0.length : Int) (wrap64 (x7_1 + 1))))) else (some false)) = some r := H
            have A5 := Aside0.mk A50
            clear A50
            by_cases c6 : t104 = true
            · subst c6
              have H1 : (if (((rd_T59 l0 x7_1).f1).size : Int) > 40 then (some false) else (if x7_1 > 0 then (if 0 ≤ (wrap64 (x7_1 - 1)) then (if (wrap64 (x7_1 - 1)) < (l0.length : Int) then (if ((Op.bytesLess (((rd_T59 l0 (wrap64 (x7_1 - 1))).f0).toList) (((rd_T59 l0 x7_1).f0).toList)) = true) then (impl_MapOk.l0 k1 l0 l0 (l0.length : Int) (wrap64 (x7_1 + 1))) else (some false)) else (none)) else (none)) else (impl_MapOk.l0 k1 l0 l0 (l0.length : Int) (wrap64 (x7_1 + 1))))) = some r := by rw [if_pos rfl] at H; exact H
              clear H
              have H := H1
              clear H1
              by_cases c7 : (((rd_T59 l0 x7_1).f1).size : Int) > 40
              · rw [if_pos c7] at H
                have c7b0 : decide (40 < (((rd_T59 l0 x7_1).f1).size : Int)) = true := decide_eq_true c7
                have c7b1 : decide (40 < ((rd_T59 l0 x7_1).f1).size) = true := decide_eq_true (by omega)
                clear c7
                obtain rfl := Option.some.inj H
                have p102 : 0 ≤ (x7_1 : Int) := of_decide_eq_true t4_
                have q102 : x7_1 < (l0.length : Int) := of_decide_eq_true t4_
                obtain ⟨ad102, e102, hx102_0, hx102_1⟩ := at_T59 HR0.out x7_1 p102 q102
                cases e102
                replace hx102_0 := (HB.out.cell (World.block_lt_of_cell? w _ hx102_0)).trans hx102_0
                replace hx102_1 := (HB.out.cell (World.block_lt_of_cell? w _ hx102_1)).trans hx102_1
                replace p102 := eq_true p102
                replace q102 := eq_true q102
                go_wp2_with (first | ((with_reducible refine gate_dst (N := 4) rfl ?_); (try (refine gate_guard (by rfl) ?_; dsimp only)); refine boxE (N := 4) (cs := #[.string (⟨#[]⟩ : ByteArray), .string (⟨#[]⟩ : ByteArray)]) (t := 59) (h := ?_); intro gb103 hg w8 hbox hb; have BK103 := Aside0.mk (hbox); have GW103 := Aside0.mk ((t3_ : w.heap.size ≤ gb103)); have GE103 := Aside0.mk ((t3_ : w.heap.size ≤ gb103)); replace HB := Aside0.mk (below_step t0_ hb); clear hb hbox hg; have hcz9_0 := bc0 BK103; have hcz9_1 := bc1 BK103; have hfz9_0 := bf BK103 0; have hfz9_1 := bf BK103 1) | (go_at_call 105; (with_reducible refine (impl_keyOk.calls ((rd_T59 l0 x7_1).f0) true _ A5.out).mono ?_); rintro e w' ⟨rfl, ⟨nd, rfl⟩⟩; (try first | exact ⟨rfl, _, World.drewN_drewN _ _ _⟩ | exact ⟨rfl, _, Eq.trans (World.drewN_drewN _ _ _) (congrArg (World.drewN _) (Nat.add_assoc _ _ _))⟩)))
                repeat (go_quiet (first | ((with_reducible refine gate_dst (N := 4) rfl ?_); (try (refine gate_guard (by rfl) ?_; dsimp only)); refine boxE (N := 4) (cs := #[.string (⟨#[]⟩ : ByteArray), .string (⟨#[]⟩ : ByteArray)]) (t := 59) (h := ?_); intro gb103 hg w8 hbox hb; have BK103 := Aside0.mk (hbox); have GW103 := Aside0.mk ((t3_ : w.heap.size ≤ gb103)); have GE103 := Aside0.mk ((t3_ : w.heap.size ≤ gb103)); replace HB := Aside0.mk (below_step t0_ hb); clear hb hbox hg; have hcz9_0 := bc0 BK103; have hcz9_1 := bc1 BK103; have hfz9_0 := bf BK103 0; have hfz9_1 := bf BK103 1) | (go_at_call 105; (with_reducible refine (impl_keyOk.calls ((rd_T59 l0 x7_1).f0) true _ A5.out).mono ?_); rintro e w' ⟨rfl, ⟨nd, rfl⟩⟩; (try first | exact ⟨rfl, _, World.drewN_drewN _ _ _⟩ | exact ⟨rfl, _, Eq.trans (World.drewN_drewN _ _ _) (congrArg (World.drewN _) (Nat.add_assoc _ _ _))⟩))); try go_wp2_with (first | ((with_reducible refine gate_dst (N := 4) rfl ?_); (try (refine gate_guard (by rfl) ?_; dsimp only)); refine boxE (N := 4) (cs := #[.string (⟨#[]⟩ : ByteArray), .string (⟨#[]⟩ : ByteArray)]) (t := 59) (h := ?_); intro gb103 hg w8 hbox hb; have BK103 := Aside0.mk (hbox); have GW103 := Aside0.mk ((t3_ : w.heap.size ≤ gb103)); have GE103 := Aside0.mk ((t3_ : w.heap.size ≤ gb103)); replace HB := Aside0.mk (below_step t0_ hb); clear hb hbox hg; have hcz9_0 := bc0 BK103; have hcz9_1 := bc1 BK103; have hfz9_0 := bf BK103 0; have hfz9_1 := bf BK103 1) | (go_at_call 105; (with_reducible refine (impl_keyOk.calls ((rd_T59 l0 x7_1).f0) true _ A5.out).mono ?_); rintro e w' ⟨rfl, ⟨nd, rfl⟩⟩; (try first | exact ⟨rfl, _, World.drewN_drewN _ _ _⟩ | exact ⟨rfl, _, Eq.trans (World.drewN_drewN _ _ _) (congrArg (World.drewN _) (Nat.add_assoc _ _ _))⟩))))
                go_ret
                exact ⟨by first | rfl | (simp [errW_none, errW_some] <;> rfl) | (simp [*, errW_none, errW_some] <;> rfl), t24_⟩
              · rw [if_neg c7] at H
                have c7b0 : decide (40 < (((rd_T59 l0 x7_1).f1).size : Int)) = false := decide_eq_false c7
                have c7b1 : decide (40 < ((rd_T59 l0 x7_1).f1).size) = false := decide_eq_false (by omega)
                clear c7
                by_cases c10 : x7_1 > 0
                · rw [if_pos c10] at H
                  have c10b0 : decide (0 < x7_1) = true := decide_eq_true c10
                  clear c10
                  obtain ⟨ji11, hji11⟩ : ∃ j_ : Int, (wrap64 (x7_1 - 1)) = j_ := ⟨_, rfl⟩
                  replace H : (if 0 ≤ (ji11) then (if (ji11) < (l0.length : Int) then (if ((Op.bytesLess (((rd_T59 l0 (ji11)).f0).toList) (((rd_T59 l0 x7_1).f0).toList)) = true) then (impl_MapOk.l0 k1 l0 l0 (l0.length : Int) (wrap64 (x7_1 + 1))) else (some false)) else (none)) else (none)) = some r := by first | (rw [hji11] at H; exact H) | (simp only [hji11] at H ⊢; exact H)
                  (try rw [hji11] at A5)
                  have hji11w : (IntKind.i64.wrap (x7_1 - 1)) = ji11 := (i64_w _).trans hji11
                  by_cases c12 : 0 ≤ (ji11)
                  · rw [if_pos c12] at H
                    have c12b0 : decide (0 ≤ (ji11)) = true := decide_eq_true c12
                    clear c12
                    by_cases c13 : (ji11) < (l0.length : Int)
                    · rw [if_pos c13] at H
                      have c13b0 : decide ((ji11) < (l0.length : Int)) = true := decide_eq_true c13
                      clear c13
                      by_cases c14 : ((Op.bytesLess (((rd_T59 l0 (ji11)).f0).toList) (((rd_T59 l0 x7_1).f0).toList)) = true)
                      · rw [if_pos c14] at H
                        have c14b0 : (Op.bytesLess (((rd_T59 l0 (ji11)).f0).toList) (((rd_T59 l0 x7_1).f0).toList)) = true := c14
                        obtain ⟨c14b7, c14b6⟩ := bl_gtr_t c14b0
                        clear c14
                        have H' := Aside0.mk H
                        clear H
                        have p102 : 0 ≤ (x7_1 : Int) := of_decide_eq_true t4_
                        have q102 : x7_1 < (l0.length : Int) := of_decide_eq_true t4_
                        obtain ⟨ad102, e102, hx102_0, hx102_1⟩ := at_T59 HR0.out x7_1 p102 q102
                        cases e102
                        replace hx102_0 := (HB.out.cell (World.block_lt_of_cell? w _ hx102_0)).trans hx102_0
                        replace hx102_1 := (HB.out.cell (World.block_lt_of_cell? w _ hx102_1)).trans hx102_1
                        replace p102 := eq_true p102
                        replace q102 := eq_true q102
                        go_wp2_with (first | ((with_reducible refine gate_dst (N := 4) rfl ?_); (try (refine gate_guard (by rfl) ?_; dsimp only)); refine boxE (N := 4) (cs := #[.string (⟨#[]⟩ : ByteArray), .string (⟨#[]⟩ : ByteArray)]) (t := 59) (h := ?_); intro gb103 hg w15 hbox hb; have BK103 := Aside0.mk (hbox); have GW103 := Aside0.mk ((t3_ : w.heap.size ≤ gb103)); have GE103 := Aside0.mk ((t3_ : w.heap.size ≤ gb103)); replace HB := Aside0.mk (below_step t0_ hb); clear hb hbox hg; have hcz16_0 := bc0 BK103; have hcz16_1 := bc1 BK103; have hfz16_0 := bf BK103 0; have hfz16_1 := bf BK103 1; have p105 : 0 ≤ ((ji11) : Int) := of_decide_eq_true t4_; have q105 : (ji11) < (l0.length : Int) := of_decide_eq_true t4_; obtain ⟨ad105, e105, hx105_0, hx105_1⟩ := at_T59 HR0.out (ji11) p105 q105; obtain rfl : ad102 = ad105 := (by injection e105); have hn105_0 : ad102.block ≠ gb103 := Nat.ne_of_lt (Nat.lt_of_lt_of_le (by have := World.block_lt_of_cell? _ _ hx105_0; first | rwa [add_block] at this | exact this) GW103.out); have hn105_1 : ad102.block ≠ gb103 := Nat.ne_of_lt (Nat.lt_of_lt_of_le (by have := World.block_lt_of_cell? _ _ hx105_0; first | rwa [add_block] at this | exact this) GW103.out); replace hx105_0 := (HB.out.cell (World.block_lt_of_cell? w _ hx105_0)).trans hx105_0; replace hx105_1 := (HB.out.cell (World.block_lt_of_cell? w _ hx105_1)).trans hx105_1; replace hx105_0 := (cell_far (p := ⟨gb103, 0, none⟩) (by first | (rw [add_block]; exact hn105_0) | (show (Addr.add _ _).block ≠ _; rw [add_block]; exact hn105_0) | exact hn105_0) (.string ((rd_T59 l0 x7_1).f0))).trans hx105_0; replace hx105_1 := (cell_far (p := ⟨gb103, 0, none⟩) (by first | (rw [add_block]; exact hn105_0) | (show (Addr.add _ _).block ≠ _; rw [add_block]; exact hn105_0) | exact hn105_0) (.string ((rd_T59 l0 x7_1).f0))).trans hx105_1; replace hx105_0 := (cell_far (p := ⟨gb103, 1, none⟩) (by first | (rw [add_block]; exact hn105_1) | (show (Addr.add _ _).block ≠ _; rw [add_block]; exact hn105_1) | exact hn105_1) (.string ((rd_T59 l0 x7_1).f1))).trans hx105_0; replace hx105_1 := (cell_far (p := ⟨gb103, 1, none⟩) (by first | (rw [add_block]; exact hn105_1) | (show (Addr.add _ _).block ≠ _; rw [add_block]; exact hn105_1) | exact hn105_1) (.string ((rd_T59 l0 x7_1).f1))).trans hx105_1; (try have hy105_0 := fun (n_ : Nat) => (show ((((w15.drewN n_).setCell ⟨gb103, 0, none⟩ (.string ((rd_T59 l0 x7_1).f0))).setCell ⟨gb103, 1, none⟩ (.string ((rd_T59 l0 x7_1).f1)))).cell? _ = some _ from hx105_0)); (try have hy105_1 := fun (n_ : Nat) => (show ((((w15.drewN n_).setCell ⟨gb103, 0, none⟩ (.string ((rd_T59 l0 x7_1).f0))).setCell ⟨gb103, 1, none⟩ (.string ((rd_T59 l0 x7_1).f1)))).cell? _ = some _ from hx105_1)); clear hn105_0; clear hn105_1; replace p105 := eq_true p105; replace q105 := eq_true q105) | (go_at_call 105; (with_reducible refine (impl_keyOk.calls ((rd_T59 l0 x7_1).f0) true _ A5.out).mono ?_); rintro e w' ⟨rfl, ⟨nd, rfl⟩⟩; (try first | exact ⟨rfl, _, World.drewN_drewN _ _ _⟩ | exact ⟨rfl, _, Eq.trans (World.drewN_drewN _ _ _) (congrArg (World.drewN _) (Nat.add_assoc _ _ _))⟩)))
                        repeat (go_quiet (first | ((with_reducible refine gate_dst (N := 4) rfl ?_); (try (refine gate_guard (by rfl) ?_; dsimp only)); refine boxE (N := 4) (cs := #[.string (⟨#[]⟩ : ByteArray), .string (⟨#[]⟩ : ByteArray)]) (t := 59) (h := ?_); intro gb103 hg w15 hbox hb; have BK103 := Aside0.mk (hbox); have GW103 := Aside0.mk ((t3_ : w.heap.size ≤ gb103)); have GE103 := Aside0.mk ((t3_ : w.heap.size ≤ gb103)); replace HB := Aside0.mk (below_step t0_ hb); clear hb hbox hg; have hcz16_0 := bc0 BK103; have hcz16_1 := bc1 BK103; have hfz16_0 := bf BK103 0; have hfz16_1 := bf BK103 1; have p105 : 0 ≤ ((ji11) : Int) := of_decide_eq_true t4_; have q105 : (ji11) < (l0.length : Int) := of_decide_eq_true t4_; obtain ⟨ad105, e105, hx105_0, hx105_1⟩ := at_T59 HR0.out (ji11) p105 q105; obtain rfl : ad102 = ad105 := (by injection e105); have hn105_0 : ad102.block ≠ gb103 := Nat.ne_of_lt (Nat.lt_of_lt_of_le (by have := World.block_lt_of_cell? _ _ hx105_0; first | rwa [add_block] at this | exact this) GW103.out); have hn105_1 : ad102.block ≠ gb103 := Nat.ne_of_lt (Nat.lt_of_lt_of_le (by have := World.block_lt_of_cell? _ _ hx105_0; first | rwa [add_block] at this | exact this) GW103.out); replace hx105_0 := (HB.out.cell (World.block_lt_of_cell? w _ hx105_0)).trans hx105_0; replace hx105_1 := (HB.out.cell (World.block_lt_of_cell? w _ hx105_1)).trans hx105_1; replace hx105_0 := (cell_far (p := ⟨gb103, 0, none⟩) (by first | (rw [add_block]; exact hn105_0) | (show (Addr.add _ _).block ≠ _; rw [add_block]; exact hn105_0) | exact hn105_0) (.string ((rd_T59 l0 x7_1).f0))).trans hx105_0; replace hx105_1 := (cell_far (p := ⟨gb103, 0, none⟩) (by first | (rw [add_block]; exact hn105_0) | (show (Addr.add _ _).block ≠ _; rw [add_block]; exact hn105_0) | exact hn105_0) (.string ((rd_T59 l0 x7_1).f0))).trans hx105_1; replace hx105_0 := (cell_far (p := ⟨gb103, 1, none⟩) (by first | (rw [add_block]; exact hn105_1) | (show (Addr.add _ _).block ≠ _; rw [add_block]; exact hn105_1) | exact hn105_1) (.string ((rd_T59 l0 x7_1).f1))).trans hx105_0; replace hx105_1 := (cell_far (p := ⟨gb103, 1, none⟩) (by first | (rw [add_block]; exact hn105_1) | (show (Addr.add _ _).block ≠ _; rw [add_block]; exact hn105_1) | exact hn105_1) (.string ((rd_T59 l0 x7_1).f1))).trans hx105_1; (try have hy105_0 := fun (n_ : Nat) => (show ((((w15.drewN n_).setCell ⟨gb103, 0, none⟩ (.string ((rd_T59 l0 x7_1).f0))).setCell ⟨gb103, 1, none⟩ (.string ((rd_T59 l0 x7_1).f1)))).cell? _ = some _ from hx105_0)); (try have hy105_1 := fun (n_ : Nat) => (show ((((w15.drewN n_).setCell ⟨gb103, 0, none⟩ (.string ((rd_T59 l0 x7_1).f0))).setCell ⟨gb103, 1, none⟩ (.string ((rd_T59 l0 x7_1).f1)))).cell? _ = some _ from hx105_1)); clear hn105_0; clear hn105_1; replace p105 := eq_true p105; replace q105 := eq_true q105) | (go_at_call 105; (with_reducible refine (impl_keyOk.calls ((rd_T59 l0 x7_1).f0) true _ A5.out).mono ?_); rintro e w' ⟨rfl, ⟨nd, rfl⟩⟩; (try first | exact ⟨rfl, _, World.drewN_drewN _ _ _⟩ | exact ⟨rfl, _, Eq.trans (World.drewN_drewN _ _ _) (congrArg (World.drewN _) (Nat.add_assoc _ _ _))⟩))); try go_wp2_with (first | ((with_reducible refine gate_dst (N := 4) rfl ?_); (try (refine gate_guard (by rfl) ?_; dsimp only)); refine boxE (N := 4) (cs := #[.string (⟨#[]⟩ : ByteArray), .string (⟨#[]⟩ : ByteArray)]) (t := 59) (h := ?_); intro gb103 hg w15 hbox hb; have BK103 := Aside0.mk (hbox); have GW103 := Aside0.mk ((t3_ : w.heap.size ≤ gb103)); have GE103 := Aside0.mk ((t3_ : w.heap.size ≤ gb103)); replace HB := Aside0.mk (below_step t0_ hb); clear hb hbox hg; have hcz16_0 := bc0 BK103; have hcz16_1 := bc1 BK103; have hfz16_0 := bf BK103 0; have hfz16_1 := bf BK103 1) | (go_at_call 105; (with_reducible refine (impl_keyOk.calls ((rd_T59 l0 x7_1).f0) true _ A5.out).mono ?_); rintro e w' ⟨rfl, ⟨nd, rfl⟩⟩; (try first | exact ⟨rfl, _, World.drewN_drewN _ _ _⟩ | exact ⟨rfl, _, Eq.trans (World.drewN_drewN _ _ _) (congrArg (World.drewN _) (Nat.add_assoc _ _ _))⟩); have p105 : 0 ≤ ((ji11) : Int) := of_decide_eq_true t4_; have q105 : (ji11) < (l0.length : Int) := of_decide_eq_true t4_; obtain ⟨ad105, e105, hx105_0, hx105_1⟩ := at_T59 HR0.out (ji11) p105 q105; obtain rfl : ad102 = ad105 := (by injection e105); have hn105_0 : ad102.block ≠ gb103 := Nat.ne_of_lt (Nat.lt_of_lt_of_le (by have := World.block_lt_of_cell? _ _ hx105_0; first | rwa [add_block] at this | exact this) GW103.out); have hn105_1 : ad102.block ≠ gb103 := Nat.ne_of_lt (Nat.lt_of_lt_of_le (by have := World.block_lt_of_cell? _ _ hx105_0; first | rwa [add_block] at this | exact this) GW103.out); replace hx105_0 := (HB.out.cell (World.block_lt_of_cell? w _ hx105_0)).trans hx105_0; replace hx105_1 := (HB.out.cell (World.block_lt_of_cell? w _ hx105_1)).trans hx105_1; replace hx105_0 := (cell_far (p := ⟨gb103, 0, none⟩) (by first | (rw [add_block]; exact hn105_0) | (show (Addr.add _ _).block ≠ _; rw [add_block]; exact hn105_0) | exact hn105_0) (.string ((rd_T59 l0 x7_1).f0))).trans hx105_0; replace hx105_1 := (cell_far (p := ⟨gb103, 0, none⟩) (by first | (rw [add_block]; exact hn105_0) | (show (Addr.add _ _).block ≠ _; rw [add_block]; exact hn105_0) | exact hn105_0) (.string ((rd_T59 l0 x7_1).f0))).trans hx105_1; replace hx105_0 := (cell_far (p := ⟨gb103, 1, none⟩) (by first | (rw [add_block]; exact hn105_1) | (show (Addr.add _ _).block ≠ _; rw [add_block]; exact hn105_1) | exact hn105_1) (.string ((rd_T59 l0 x7_1).f1))).trans hx105_0; replace hx105_1 := (cell_far (p := ⟨gb103, 1, none⟩) (by first | (rw [add_block]; exact hn105_1) | (show (Addr.add _ _).block ≠ _; rw [add_block]; exact hn105_1) | exact hn105_1) (.string ((rd_T59 l0 x7_1).f1))).trans hx105_1; (try have hy105_0 := fun (n_ : Nat) => (show ((((w15.drewN n_).setCell ⟨gb103, 0, none⟩ (.string ((rd_T59 l0 x7_1).f0))).setCell ⟨gb103, 1, none⟩ (.string ((rd_T59 l0 x7_1).f1)))).cell? _ = some _ from hx105_0)); (try have hy105_1 := fun (n_ : Nat) => (show ((((w15.drewN n_).setCell ⟨gb103, 0, none⟩ (.string ((rd_T59 l0 x7_1).f0))).setCell ⟨gb103, 1, none⟩ (.string ((rd_T59 l0 x7_1).f1)))).cell? _ = some _ from hx105_1)); clear hn105_0; clear hn105_1; replace p105 := eq_true p105; replace q105 := eq_true q105)))
                        go_roundg k1
                        case measure => have := HK1.out; omega
                        case rel => exact ⟨(wrap64 (x7_1 + 1)), t10_, H', ⟨by have := HK1.out; omega⟩, ⟨t24_⟩⟩
                      · rw [if_neg c14] at H
                        have c14b0 : (Op.bytesLess (((rd_T59 l0 (ji11)).f0).toList) (((rd_T59 l0 x7_1).f0).toList)) = false := by simpa using c14
                        obtain ⟨c14b7, c14b6⟩ := bl_gtr_f c14b0
                        clear c14
                        obtain rfl := Option.some.inj H
                        have p102 : 0 ≤ (x7_1 : Int) := of_decide_eq_true t4_
                        have q102 : x7_1 < (l0.length : Int) := of_decide_eq_true t4_
                        obtain ⟨ad102, e102, hx102_0, hx102_1⟩ := at_T59 HR0.out x7_1 p102 q102
                        cases e102
                        replace hx102_0 := (HB.out.cell (World.block_lt_of_cell? w _ hx102_0)).trans hx102_0
                        replace hx102_1 := (HB.out.cell (World.block_lt_of_cell? w _ hx102_1)).trans hx102_1
                        replace p102 := eq_true p102
                        replace q102 := eq_true q102
                        go_wp2_with (first | ((with_reducible refine gate_dst (N := 4) rfl ?_); (try (refine gate_guard (by rfl) ?_; dsimp only)); refine boxE (N := 4) (cs := #[.string (⟨#[]⟩ : ByteArray), .string (⟨#[]⟩ : ByteArray)]) (t := 59) (h := ?_); intro gb103 hg w17 hbox hb; have BK103 := Aside0.mk (hbox); have GW103 := Aside0.mk ((t3_ : w.heap.size ≤ gb103)); have GE103 := Aside0.mk ((t3_ : w.heap.size ≤ gb103)); replace HB := Aside0.mk (below_step t0_ hb); clear hb hbox hg; have hcz18_0 := bc0 BK103; have hcz18_1 := bc1 BK103; have hfz18_0 := bf BK103 0; have hfz18_1 := bf BK103 1; have p105 : 0 ≤ ((ji11) : Int) := of_decide_eq_true t4_; have q105 : (ji11) < (l0.length : Int) := of_decide_eq_true t4_; obtain ⟨ad105, e105, hx105_0, hx105_1⟩ := at_T59 HR0.out (ji11) p105 q105; obtain rfl : ad102 = ad105 := (by injection e105); have hn105_0 : ad102.block ≠ gb103 := Nat.ne_of_lt (Nat.lt_of_lt_of_le (by have := World.block_lt_of_cell? _ _ hx105_0; first | rwa [add_block] at this | exact this) GW103.out); have hn105_1 : ad102.block ≠ gb103 := Nat.ne_of_lt (Nat.lt_of_lt_of_le (by have := World.block_lt_of_cell? _ _ hx105_0; first | rwa [add_block] at this | exact this) GW103.out); replace hx105_0 := (HB.out.cell (World.block_lt_of_cell? w _ hx105_0)).trans hx105_0; replace hx105_1 := (HB.out.cell (World.block_lt_of_cell? w _ hx105_1)).trans hx105_1; replace hx105_0 := (cell_far (p := ⟨gb103, 0, none⟩) (by first | (rw [add_block]; exact hn105_0) | (show (Addr.add _ _).block ≠ _; rw [add_block]; exact hn105_0) | exact hn105_0) (.string ((rd_T59 l0 x7_1).f0))).trans hx105_0; replace hx105_1 := (cell_far (p := ⟨gb103, 0, none⟩) (by first | (rw [add_block]; exact hn105_0) | (show (Addr.add _ _).block ≠ _; rw [add_block]; exact hn105_0) | exact hn105_0) (.string ((rd_T59 l0 x7_1).f0))).trans hx105_1; replace hx105_0 := (cell_far (p := ⟨gb103, 1, none⟩) (by first | (rw [add_block]; exact hn105_1) | (show (Addr.add _ _).block ≠ _; rw [add_block]; exact hn105_1) | exact hn105_1) (.string ((rd_T59 l0 x7_1).f1))).trans hx105_0; replace hx105_1 := (cell_far (p := ⟨gb103, 1, none⟩) (by first | (rw [add_block]; exact hn105_1) | (show (Addr.add _ _).block ≠ _; rw [add_block]; exact hn105_1) | exact hn105_1) (.string ((rd_T59 l0 x7_1).f1))).trans hx105_1; (try have hy105_0 := fun (n_ : Nat) => (show ((((w17.drewN n_).setCell ⟨gb103, 0, none⟩ (.string ((rd_T59 l0 x7_1).f0))).setCell ⟨gb103, 1, none⟩ (.string ((rd_T59 l0 x7_1).f1)))).cell? _ = some _ from hx105_0)); (try have hy105_1 := fun (n_ : Nat) => (show ((((w17.drewN n_).setCell ⟨gb103, 0, none⟩ (.string ((rd_T59 l0 x7_1).f0))).setCell ⟨gb103, 1, none⟩ (.string ((rd_T59 l0 x7_1).f1)))).cell? _ = some _ from hx105_1)); clear hn105_0; clear hn105_1; replace p105 := eq_true p105; replace q105 := eq_true q105) | (go_at_call 105; (with_reducible refine (impl_keyOk.calls ((rd_T59 l0 x7_1).f0) true _ A5.out).mono ?_); rintro e w' ⟨rfl, ⟨nd, rfl⟩⟩; (try first | exact ⟨rfl, _, World.drewN_drewN _ _ _⟩ | exact ⟨rfl, _, Eq.trans (World.drewN_drewN _ _ _) (congrArg (World.drewN _) (Nat.add_assoc _ _ _))⟩)))
                        repeat (go_quiet (first | ((with_reducible refine gate_dst (N := 4) rfl ?_); (try (refine gate_guard (by rfl) ?_; dsimp only)); refine boxE (N := 4) (cs := #[.string (⟨#[]⟩ : ByteArray), .string (⟨#[]⟩ : ByteArray)]) (t := 59) (h := ?_); intro gb103 hg w17 hbox hb; have BK103 := Aside0.mk (hbox); have GW103 := Aside0.mk ((t3_ : w.heap.size ≤ gb103)); have GE103 := Aside0.mk ((t3_ : w.heap.size ≤ gb103)); replace HB := Aside0.mk (below_step t0_ hb); clear hb hbox hg; have hcz18_0 := bc0 BK103; have hcz18_1 := bc1 BK103; have hfz18_0 := bf BK103 0; have hfz18_1 := bf BK103 1; have p105 : 0 ≤ ((ji11) : Int) := of_decide_eq_true t4_; have q105 : (ji11) < (l0.length : Int) := of_decide_eq_true t4_; obtain ⟨ad105, e105, hx105_0, hx105_1⟩ := at_T59 HR0.out (ji11) p105 q105; obtain rfl : ad102 = ad105 := (by injection e105); have hn105_0 : ad102.block ≠ gb103 := Nat.ne_of_lt (Nat.lt_of_lt_of_le (by have := World.block_lt_of_cell? _ _ hx105_0; first | rwa [add_block] at this | exact this) GW103.out); have hn105_1 : ad102.block ≠ gb103 := Nat.ne_of_lt (Nat.lt_of_lt_of_le (by have := World.block_lt_of_cell? _ _ hx105_0; first | rwa [add_block] at this | exact this) GW103.out); replace hx105_0 := (HB.out.cell (World.block_lt_of_cell? w _ hx105_0)).trans hx105_0; replace hx105_1 := (HB.out.cell (World.block_lt_of_cell? w _ hx105_1)).trans hx105_1; replace hx105_0 := (cell_far (p := ⟨gb103, 0, none⟩) (by first | (rw [add_block]; exact hn105_0) | (show (Addr.add _ _).block ≠ _; rw [add_block]; exact hn105_0) | exact hn105_0) (.string ((rd_T59 l0 x7_1).f0))).trans hx105_0; replace hx105_1 := (cell_far (p := ⟨gb103, 0, none⟩) (by first | (rw [add_block]; exact hn105_0) | (show (Addr.add _ _).block ≠ _; rw [add_block]; exact hn105_0) | exact hn105_0) (.string ((rd_T59 l0 x7_1).f0))).trans hx105_1; replace hx105_0 := (cell_far (p := ⟨gb103, 1, none⟩) (by first | (rw [add_block]; exact hn105_1) | (show (Addr.add _ _).block ≠ _; rw [add_block]; exact hn105_1) | exact hn105_1) (.string ((rd_T59 l0 x7_1).f1))).trans hx105_0; replace hx105_1 := (cell_far (p := ⟨gb103, 1, none⟩) (by first | (rw [add_block]; exact hn105_1) | (show (Addr.add _ _).block ≠ _; rw [add_block]; exact hn105_1) | exact hn105_1) (.string ((rd_T59 l0 x7_1).f1))).trans hx105_1; (try have hy105_0 := fun (n_ : Nat) => (show ((((w17.drewN n_).setCell ⟨gb103, 0, none⟩ (.string ((rd_T59 l0 x7_1).f0))).setCell ⟨gb103, 1, none⟩ (.string ((rd_T59 l0 x7_1).f1)))).cell? _ = some _ from hx105_0)); (try have hy105_1 := fun (n_ : Nat) => (show ((((w17.drewN n_).setCell ⟨gb103, 0, none⟩ (.string ((rd_T59 l0 x7_1).f0))).setCell ⟨gb103, 1, none⟩ (.string ((rd_T59 l0 x7_1).f1)))).cell? _ = some _ from hx105_1)); clear hn105_0; clear hn105_1; replace p105 := eq_true p105; replace q105 := eq_true q105) | (go_at_call 105; (with_reducible refine (impl_keyOk.calls ((rd_T59 l0 x7_1).f0) true _ A5.out).mono ?_); rintro e w' ⟨rfl, ⟨nd, rfl⟩⟩; (try first | exact ⟨rfl, _, World.drewN_drewN _ _ _⟩ | exact ⟨rfl, _, Eq.trans (World.drewN_drewN _ _ _) (congrArg (World.drewN _) (Nat.add_assoc _ _ _))⟩))); try go_wp2_with (first | ((with_reducible refine gate_dst (N := 4) rfl ?_); (try (refine gate_guard (by rfl) ?_; dsimp only)); refine boxE (N := 4) (cs := #[.string (⟨#[]⟩ : ByteArray), .string (⟨#[]⟩ : ByteArray)]) (t := 59) (h := ?_); intro gb103 hg w17 hbox hb; have BK103 := Aside0.mk (hbox); have GW103 := Aside0.mk ((t3_ : w.heap.size ≤ gb103)); have GE103 := Aside0.mk ((t3_ : w.heap.size ≤ gb103)); replace HB := Aside0.mk (below_step t0_ hb); clear hb hbox hg; have hcz18_0 := bc0 BK103; have hcz18_1 := bc1 BK103; have hfz18_0 := bf BK103 0; have hfz18_1 := bf BK103 1) | (go_at_call 105; (with_reducible refine (impl_keyOk.calls ((rd_T59 l0 x7_1).f0) true _ A5.out).mono ?_); rintro e w' ⟨rfl, ⟨nd, rfl⟩⟩; (try first | exact ⟨rfl, _, World.drewN_drewN _ _ _⟩ | exact ⟨rfl, _, Eq.trans (World.drewN_drewN _ _ _) (congrArg (World.drewN _) (Nat.add_assoc _ _ _))⟩); have p105 : 0 ≤ ((ji11) : Int) := of_decide_eq_true t4_; have q105 : (ji11) < (l0.length : Int) := of_decide_eq_true t4_; obtain ⟨ad105, e105, hx105_0, hx105_1⟩ := at_T59 HR0.out (ji11) p105 q105; obtain rfl : ad102 = ad105 := (by injection e105); have hn105_0 : ad102.block ≠ gb103 := Nat.ne_of_lt (Nat.lt_of_lt_of_le (by have := World.block_lt_of_cell? _ _ hx105_0; first | rwa [add_block] at this | exact this) GW103.out); have hn105_1 : ad102.block ≠ gb103 := Nat.ne_of_lt (Nat.lt_of_lt_of_le (by have := World.block_lt_of_cell? _ _ hx105_0; first | rwa [add_block] at this | exact this) GW103.out); replace hx105_0 := (HB.out.cell (World.block_lt_of_cell? w _ hx105_0)).trans hx105_0; replace hx105_1 := (HB.out.cell (World.block_lt_of_cell? w _ hx105_1)).trans hx105_1; replace hx105_0 := (cell_far (p := ⟨gb103, 0, none⟩) (by first | (rw [add_block]; exact hn105_0) | (show (Addr.add _ _).block ≠ _; rw [add_block]; exact hn105_0) | exact hn105_0) (.string ((rd_T59 l0 x7_1).f0))).trans hx105_0; replace hx105_1 := (cell_far (p := ⟨gb103, 0, none⟩) (by first | (rw [add_block]; exact hn105_0) | (show (Addr.add _ _).block ≠ _; rw [add_block]; exact hn105_0) | exact hn105_0) (.string ((rd_T59 l0 x7_1).f0))).trans hx105_1; replace hx105_0 := (cell_far (p := ⟨gb103, 1, none⟩) (by first | (rw [add_block]; exact hn105_1) | (show (Addr.add _ _).block ≠ _; rw [add_block]; exact hn105_1) | exact hn105_1) (.string ((rd_T59 l0 x7_1).f1))).trans hx105_0; replace hx105_1 := (cell_far (p := ⟨gb103, 1, none⟩) (by first | (rw [add_block]; exact hn105_1) | (show (Addr.add _ _).block ≠ _; rw [add_block]; exact hn105_1) | exact hn105_1) (.string ((rd_T59 l0 x7_1).f1))).trans hx105_1; (try have hy105_0 := fun (n_ : Nat) => (show ((((w17.drewN n_).setCell ⟨gb103, 0, none⟩ (.string ((rd_T59 l0 x7_1).f0))).setCell ⟨gb103, 1, none⟩ (.string ((rd_T59 l0 x7_1).f1)))).cell? _ = some _ from hx105_0)); (try have hy105_1 := fun (n_ : Nat) => (show ((((w17.drewN n_).setCell ⟨gb103, 0, none⟩ (.string ((rd_T59 l0 x7_1).f0))).setCell ⟨gb103, 1, none⟩ (.string ((rd_T59 l0 x7_1).f1)))).cell? _ = some _ from hx105_1)); clear hn105_0; clear hn105_1; replace p105 := eq_true p105; replace q105 := eq_true q105)))
                        go_ret
                        exact ⟨by first | rfl | (simp [errW_none, errW_some] <;> rfl) | (simp only [← hji11]; first | rfl | (simp [errW_none, errW_some] <;> rfl)) | (simp [*, errW_none, errW_some] <;> rfl), t24_⟩
                    · rw [if_neg c13] at H
                      exact absurd H (by simp)
                  · rw [if_neg c12] at H
                    exact absurd H (by simp)
                · rw [if_neg c10] at H
                  have c10b0 : decide (0 < x7_1) = false := decide_eq_false c10
                  clear c10
                  have H' := Aside0.mk H
                  clear H
                  have p102 : 0 ≤ (x7_1 : Int) := of_decide_eq_true t4_
                  have q102 : x7_1 < (l0.length : Int) := of_decide_eq_true t4_
                  obtain ⟨ad102, e102, hx102_0, hx102_1⟩ := at_T59 HR0.out x7_1 p102 q102
                  cases e102
                  replace hx102_0 := (HB.out.cell (World.block_lt_of_cell? w _ hx102_0)).trans hx102_0
                  replace hx102_1 := (HB.out.cell (World.block_lt_of_cell? w _ hx102_1)).trans hx102_1
                  replace p102 := eq_true p102
                  replace q102 := eq_true q102
                  go_wp2_with (first | ((with_reducible refine gate_dst (N := 4) rfl ?_); (try (refine gate_guard (by rfl) ?_; dsimp only)); refine boxE (N := 4) (cs := #[.string (⟨#[]⟩ : ByteArray), .string (⟨#[]⟩ : ByteArray)]) (t := 59) (h := ?_); intro gb103 hg w19 hbox hb; have BK103 := Aside0.mk (hbox); have GW103 := Aside0.mk ((t3_ : w.heap.size ≤ gb103)); have GE103 := Aside0.mk ((t3_ : w.heap.size ≤ gb103)); replace HB := Aside0.mk (below_step t0_ hb); clear hb hbox hg; have hcz20_0 := bc0 BK103; have hcz20_1 := bc1 BK103; have hfz20_0 := bf BK103 0; have hfz20_1 := bf BK103 1) | (go_at_call 105; (with_reducible refine (impl_keyOk.calls ((rd_T59 l0 x7_1).f0) true _ A5.out).mono ?_); rintro e w' ⟨rfl, ⟨nd, rfl⟩⟩; (try first | exact ⟨rfl, _, World.drewN_drewN _ _ _⟩ | exact ⟨rfl, _, Eq.trans (World.drewN_drewN _ _ _) (congrArg (World.drewN _) (Nat.add_assoc _ _ _))⟩)))
                  repeat (go_quiet (first | ((with_reducible refine gate_dst (N := 4) rfl ?_); (try (refine gate_guard (by rfl) ?_; dsimp only)); refine boxE (N := 4) (cs := #[.string (⟨#[]⟩ : ByteArray), .string (⟨#[]⟩ : ByteArray)]) (t := 59) (h := ?_); intro gb103 hg w19 hbox hb; have BK103 := Aside0.mk (hbox); have GW103 := Aside0.mk ((t3_ : w.heap.size ≤ gb103)); have GE103 := Aside0.mk ((t3_ : w.heap.size ≤ gb103)); replace HB := Aside0.mk (below_step t0_ hb); clear hb hbox hg; have hcz20_0 := bc0 BK103; have hcz20_1 := bc1 BK103; have hfz20_0 := bf BK103 0; have hfz20_1 := bf BK103 1) | (go_at_call 105; (with_reducible refine (impl_keyOk.calls ((rd_T59 l0 x7_1).f0) true _ A5.out).mono ?_); rintro e w' ⟨rfl, ⟨nd, rfl⟩⟩; (try first | exact ⟨rfl, _, World.drewN_drewN _ _ _⟩ | exact ⟨rfl, _, Eq.trans (World.drewN_drewN _ _ _) (congrArg (World.drewN _) (Nat.add_assoc _ _ _))⟩))); try go_wp2_with (first | ((with_reducible refine gate_dst (N := 4) rfl ?_); (try (refine gate_guard (by rfl) ?_; dsimp only)); refine boxE (N := 4) (cs := #[.string (⟨#[]⟩ : ByteArray), .string (⟨#[]⟩ : ByteArray)]) (t := 59) (h := ?_); intro gb103 hg w19 hbox hb; have BK103 := Aside0.mk (hbox); have GW103 := Aside0.mk ((t3_ : w.heap.size ≤ gb103)); have GE103 := Aside0.mk ((t3_ : w.heap.size ≤ gb103)); replace HB := Aside0.mk (below_step t0_ hb); clear hb hbox hg; have hcz20_0 := bc0 BK103; have hcz20_1 := bc1 BK103; have hfz20_0 := bf BK103 0; have hfz20_1 := bf BK103 1) | (go_at_call 105; (with_reducible refine (impl_keyOk.calls ((rd_T59 l0 x7_1).f0) true _ A5.out).mono ?_); rintro e w' ⟨rfl, ⟨nd, rfl⟩⟩; (try first | exact ⟨rfl, _, World.drewN_drewN _ _ _⟩ | exact ⟨rfl, _, Eq.trans (World.drewN_drewN _ _ _) (congrArg (World.drewN _) (Nat.add_assoc _ _ _))⟩))))
                  go_roundg k1
                  case measure => have := HK1.out; omega
                  case rel => exact ⟨(wrap64 (x7_1 + 1)), t10_, H', ⟨by have := HK1.out; omega⟩, ⟨t24_⟩⟩
            · replace c6 := Bool.eq_false_iff.mpr c6
              subst c6
              have H1 : (some false) = some r := by rw [if_neg (show ¬ (false = true) by decide)] at H; exact H
              clear H
              have H := H1
              clear H1
              obtain rfl := Option.some.inj H
              have p102 : 0 ≤ (x7_1 : Int) := of_decide_eq_true t4_
              have q102 : x7_1 < (l0.length : Int) := of_decide_eq_true t4_
              obtain ⟨ad102, e102, hx102_0, hx102_1⟩ := at_T59 HR0.out x7_1 p102 q102
              cases e102
              replace hx102_0 := (HB.out.cell (World.block_lt_of_cell? w _ hx102_0)).trans hx102_0
              replace hx102_1 := (HB.out.cell (World.block_lt_of_cell? w _ hx102_1)).trans hx102_1
              replace p102 := eq_true p102
              replace q102 := eq_true q102
              go_wp2_with (first | ((with_reducible refine gate_dst (N := 4) rfl ?_); (try (refine gate_guard (by rfl) ?_; dsimp only)); refine boxE (N := 4) (cs := #[.string (⟨#[]⟩ : ByteArray), .string (⟨#[]⟩ : ByteArray)]) (t := 59) (h := ?_); intro gb103 hg w21 hbox hb; have BK103 := Aside0.mk (hbox); have GW103 := Aside0.mk ((t3_ : w.heap.size ≤ gb103)); have GE103 := Aside0.mk ((t3_ : w.heap.size ≤ gb103)); replace HB := Aside0.mk (below_step t0_ hb); clear hb hbox hg; have hcz22_0 := bc0 BK103; have hcz22_1 := bc1 BK103; have hfz22_0 := bf BK103 0; have hfz22_1 := bf BK103 1) | (go_at_call 105; (with_reducible refine (impl_keyOk.calls ((rd_T59 l0 x7_1).f0) false _ A5.out).mono ?_); rintro e w' ⟨rfl, ⟨nd, rfl⟩⟩; (try first | exact ⟨rfl, _, World.drewN_drewN _ _ _⟩ | exact ⟨rfl, _, Eq.trans (World.drewN_drewN _ _ _) (congrArg (World.drewN _) (Nat.add_assoc _ _ _))⟩)))
              repeat (go_quiet (first | ((with_reducible refine gate_dst (N := 4) rfl ?_); (try (refine gate_guard (by rfl) ?_; dsimp only)); refine boxE (N := 4) (cs := #[.string (⟨#[]⟩ : ByteArray), .string (⟨#[]⟩ : ByteArray)]) (t := 59) (h := ?_); intro gb103 hg w21 hbox hb; have BK103 := Aside0.mk (hbox); have GW103 := Aside0.mk ((t3_ : w.heap.size ≤ gb103)); have GE103 := Aside0.mk ((t3_ : w.heap.size ≤ gb103)); replace HB := Aside0.mk (below_step t0_ hb); clear hb hbox hg; have hcz22_0 := bc0 BK103; have hcz22_1 := bc1 BK103; have hfz22_0 := bf BK103 0; have hfz22_1 := bf BK103 1) | (go_at_call 105; (with_reducible refine (impl_keyOk.calls ((rd_T59 l0 x7_1).f0) false _ A5.out).mono ?_); rintro e w' ⟨rfl, ⟨nd, rfl⟩⟩; (try first | exact ⟨rfl, _, World.drewN_drewN _ _ _⟩ | exact ⟨rfl, _, Eq.trans (World.drewN_drewN _ _ _) (congrArg (World.drewN _) (Nat.add_assoc _ _ _))⟩))); try go_wp2_with (first | ((with_reducible refine gate_dst (N := 4) rfl ?_); (try (refine gate_guard (by rfl) ?_; dsimp only)); refine boxE (N := 4) (cs := #[.string (⟨#[]⟩ : ByteArray), .string (⟨#[]⟩ : ByteArray)]) (t := 59) (h := ?_); intro gb103 hg w21 hbox hb; have BK103 := Aside0.mk (hbox); have GW103 := Aside0.mk ((t3_ : w.heap.size ≤ gb103)); have GE103 := Aside0.mk ((t3_ : w.heap.size ≤ gb103)); replace HB := Aside0.mk (below_step t0_ hb); clear hb hbox hg; have hcz22_0 := bc0 BK103; have hcz22_1 := bc1 BK103; have hfz22_0 := bf BK103 0; have hfz22_1 := bf BK103 1) | (go_at_call 105; (with_reducible refine (impl_keyOk.calls ((rd_T59 l0 x7_1).f0) false _ A5.out).mono ?_); rintro e w' ⟨rfl, ⟨nd, rfl⟩⟩; (try first | exact ⟨rfl, _, World.drewN_drewN _ _ _⟩ | exact ⟨rfl, _, Eq.trans (World.drewN_drewN _ _ _) (congrArg (World.drewN _) (Nat.add_assoc _ _ _))⟩))))
              go_ret
              exact ⟨by first | rfl | (simp [errW_none, errW_some] <;> rfl) | (simp [*, errW_none, errW_some] <;> rfl), t24_⟩
          · rw [if_neg c4] at H
            exact absurd H (by simp)
        · rw [if_neg c3] at H
          exact absurd H (by simp)
      · rw [if_neg c2] at H
        have c2b0 : decide (x7_1 < (l0.length : Int)) = false := decide_eq_false c2
        clear c2
        obtain rfl := Option.some.inj H
        go_wp2
        repeat (go_quiet (fail); try go_wp2)
        go_ret
        exact ⟨by first | rfl | (simp [errW_none, errW_some] <;> rfl) | (simp [*, errW_none, errW_some] <;> rfl), t0_⟩

/-! ### impl_BatchOk: function 75 -/
def impl_BatchOk.l0 : Nat → List (S109) → Int → Int → Int → List (S109) → Option (Bool)
  | 0, _, _, _, _, _ => none
  | k + 1, x6, x7, x8, x107000, x107001 => if x8 < x7 then (if 0 ≤ x8 then (if x8 < (x6.length : Int) then ((impl_keyOk.f ((rd_T109 x6 x8).f0)).bind fun t109 => (if t109 = true then (if (((rd_T109 x6 x8).f1).size : Int) > 40 then (some false) else (if (rd_T109 x6 x8).f2 = true then (if ((rd_T109 x6 x8).f1).toList = ([] : List UInt8) then (if x8 > 0 then (if 0 ≤ (wrap64 (x8 - 1)) then (if (wrap64 (x8 - 1)) < (x107001.length : Int) then (if ((Op.bytesLess (((rd_T109 x107001 (wrap64 (x8 - 1))).f0).toList) (((rd_T109 x6 x8).f0).toList)) = true) then (impl_BatchOk.l0 k x6 x7 (wrap64 (x8 + 1)) x107000 x107001) else (some false)) else (none)) else (none)) else (impl_BatchOk.l0 k x6 x7 (wrap64 (x8 + 1)) x107000 x107001)) else (some false)) else (if x8 > 0 then (if 0 ≤ (wrap64 (x8 - 1)) then (if (wrap64 (x8 - 1)) < (x107001.length : Int) then (if ((Op.bytesLess (((rd_T109 x107001 (wrap64 (x8 - 1))).f0).toList) (((rd_T109 x6 x8).f0).toList)) = true) then (impl_BatchOk.l0 k x6 x7 (wrap64 (x8 + 1)) x107000 x107001) else (some false)) else (none)) else (none)) else (impl_BatchOk.l0 k x6 x7 (wrap64 (x8 + 1)) x107000 x107001)))) else (some false))) else (none)) else (none)) else ((impl_within.f x107000 0 100000).bind fun t112 => (if t112 = true then (some (decide ((x107001.length : Int) ≤ 60))) else (some false)))
def impl_BatchOk.f (k : Nat) (a0_0 : Int) (l0_1 : List (S109)) : Option (Bool) := impl_BatchOk.l0 k l0_1 (l0_1.length : Int) 0 a0_0 l0_1
theorem impl_BatchOk.mono_l : ∀ k, (∀ y0 y1 y2 y3 y4, LeO (impl_BatchOk.l0 k y0 y1 y2 y3 y4) (impl_BatchOk.l0 (k + 1) y0 y1 y2 y3 y4))
  | 0 => fun _ _ _ _ _ r h => by simp [impl_BatchOk.l0] at h
  | k + 1 => by
    have ih0 := impl_BatchOk.mono_l k
    · intro y0 y1 y2 y3 y4
      unfold impl_BatchOk.l0
      repeat' first
      | (with_reducible exact ih0 _ _ _ _ _)
      | (with_reducible exact LeO.refl _)
      | (with_reducible exact LeO.none _)
      | (with_reducible refine LeO.ite ?_ ?_)
      | (with_reducible refine LeO.bind ?_ (fun _ => ?_))
      | exact ih0 _ _ _ _ _
      | exact LeO.none _
      | refine LeO.ite ?_ ?_
      | refine LeO.bind ?_ (fun _ => ?_)
theorem impl_BatchOk.mono : ∀ a0 a1 k, LeO (impl_BatchOk.f k a0 a1) (impl_BatchOk.f (k + 1) a0 a1) := by
  intro a0 a1 k
  have ih0 := impl_BatchOk.mono_l k
  unfold impl_BatchOk.f
  repeat' first
      | (with_reducible exact ih0 _ _ _ _ _)
      | (with_reducible exact LeO.refl _)
      | (with_reducible exact LeO.none _)
      | (with_reducible refine LeO.ite ?_ ?_)
      | (with_reducible refine LeO.bind ?_ (fun _ => ?_))
      | exact ih0 _ _ _ _ _
      | exact LeO.none _
      | refine LeO.ite ?_ ?_
      | refine LeO.bind ?_ (fun _ => ?_)
set_option maxHeartbeats 8000000 in
set_option maxRecDepth 100000 in
theorem impl_BatchOk.calls (k : Nat) (a0_0 : Int) (A0_1 : Option Addr) (c0_1 : Nat) (l0_1 : List (S109)) (r : Bool) (w : World) (hr0_1 : Kd.C k109 w A0_1 l0_1.length l0_1) (hc0_1 : l0_1.length ≤ c0_1) (h : impl_BatchOk.f k a0_0 l0_1 = some r) :
    Calls Try.prog 75 #[.agg #[.int .i64 a0_0, .slice A0_1 l0_1.length c0_1]] w fun e w' => e = .returned (.bool r) ∧ Below w.heap.size w w' := by
  have hu52 := Try.underlying52
  have hu109 := Try.underlying109
  have HR0_1 := Aside0.mk hr0_1
  have HC0_1 := Aside0.mk hc0_1
  clear hr0_1 hc0_1
  have HB := Aside0.mk (Below.refl w.heap.size w)
  have H : (impl_BatchOk.l0 k l0_1 (l0_1.length : Int) 0 a0_0 l0_1) = some r := h
  clear h
  have H' := Aside0.mk H
  clear H
  go_enter Try.func75, Try.ntmps75
  go_wp2_with (first | ((with_reducible refine gate_dst (N := 1) rfl ?_); (try (refine gate_guard (by rfl) ?_; dsimp only)); refine boxE (N := 1) (cs := #[.int .i64 a0_0, .slice A0_1 l0_1.length c0_1]) (t := 52) (h := ?_); intro gb106 hg w2 hbox hb; have BK106 := Aside0.mk (hbox); have GW106 := Aside0.mk ((t3_ : w.heap.size ≤ gb106)); have GE106 := Aside0.mk ((t3_ : w.heap.size ≤ gb106)); replace HB := Aside0.mk (below_step t0_ hb); clear hb hbox hg; have hcz3_0 := bc0 BK106; have hcz3_1 := bc1 BK106; have hfz3_0 := bf BK106 0; have hfz3_1 := bf BK106 1))
  repeat (go_quiet (first | ((with_reducible refine gate_dst (N := 1) rfl ?_); (try (refine gate_guard (by rfl) ?_; dsimp only)); refine boxE (N := 1) (cs := #[.int .i64 a0_0, .slice A0_1 l0_1.length c0_1]) (t := 52) (h := ?_); intro gb106 hg w2 hbox hb; have BK106 := Aside0.mk (hbox); have GW106 := Aside0.mk ((t3_ : w.heap.size ≤ gb106)); have GE106 := Aside0.mk ((t3_ : w.heap.size ≤ gb106)); replace HB := Aside0.mk (below_step t0_ hb); clear hb hbox hg; have hcz3_0 := bc0 BK106; have hcz3_1 := bc1 BK106; have hfz3_0 := bf BK106 0; have hfz3_1 := bf BK106 1)); try go_wp2_with (first | ((with_reducible refine gate_dst (N := 1) rfl ?_); (try (refine gate_guard (by rfl) ?_; dsimp only)); refine boxE (N := 1) (cs := #[.int .i64 a0_0, .slice A0_1 l0_1.length c0_1]) (t := 52) (h := ?_); intro gb106 hg w2 hbox hb; have BK106 := Aside0.mk (hbox); have GW106 := Aside0.mk ((t3_ : w.heap.size ≤ gb106)); have GE106 := Aside0.mk ((t3_ : w.heap.size ≤ gb106)); replace HB := Aside0.mk (below_step t0_ hb); clear hb hbox hg; have hcz3_0 := bc0 BK106; have hcz3_1 := bc1 BK106; have hfz3_0 := bf BK106 0; have hfz3_1 := bf BK106 1)))
  go_loopg [8] k (fun kq v8 w' => ∃ (x8_1 : Int), v8 = .int .i64 x8_1 ∧ Aside0 (impl_BatchOk.l0 kq l0_1 (l0_1.length : Int) x8_1 a0_0 l0_1 = some r) ∧ Aside0 (kq ≤ k) ∧ Aside0 (w'.heap[gb106]? = some (.cells #[.int .i64 a0_0, (.slice A0_1 l0_1.length c0_1)] 52 (0, 0))) ∧ Aside0 (Below w.heap.size w w'))
  case atStart => exact ⟨(0), t10_, H', ⟨Nat.le_refl _⟩, ⟨by (with_reducible repeat (first | refine blk_drewN ?_ _ | refine blk_drew ?_ | refine blk_alloc ?_ _)); exact BK106.out⟩, ⟨t2_⟩⟩
  case round =>
    clear H'
    try clear p2
    try clear hcz3_0
    try clear hcz3_1
    try clear hfz3_0
    try clear hfz3_1
    obtain ⟨x8_1, rfl, HA, HK1, BK106, HB⟩ := hrel
    cases gk with
    | zero => exact absurd HA.out (by simp [impl_BatchOk.l0])
    | succ k1 =>
      have H := HA.out
      clear HA
      simp only [impl_BatchOk.l0] at H
      by_cases c4 : x8_1 < (l0_1.length : Int)
      · rw [if_pos c4] at H
        have c4b0 : decide (x8_1 < (l0_1.length : Int)) = true := decide_eq_true c4
        clear c4
        by_cases c5 : 0 ≤ x8_1
        · rw [if_pos c5] at H
          have c5b0 : decide (0 ≤ x8_1) = true := decide_eq_true c5
          clear c5
          by_cases c6 : x8_1 < (l0_1.length : Int)
          · rw [if_pos c6] at H
            have c6b0 : decide (x8_1 < (l0_1.length : Int)) = true := decide_eq_true c6
            clear c6
            replace H := Option.bind_eq_some_iff.mp H
            obtain ⟨t109, A70, H⟩ := H
            replace H : (if t109 = true then (if (((rd_T109 l0_1 x8_1).f1).size : Int) > 40 then (some false) else (if (rd_T109 l0_1 x8_1).f2 = true then (if ((rd_T109 l0_1 x8_1).f1).toList = ([] : List UInt8) then (if x8_1 > 0 then (if 0 ≤ (wrap64 (x8_1 - 1)) then (if (wrap64 (x8_1 - 1)) < (l0_1.length : Int) then (if ((Op.bytesLess (((rd_T109 l0_1 (wrap64 (x8_1 - 1))).f0).toList) (((rd_T109 l0_1 x8_1).f0).toList)) = true) then (impl_BatchOk.l0 k1 l0_1 (l0_1.length : Int) (wrap64 (x8_1 + 1)) a0_0 l0_1) else (some false)) else (none)) else (none)) else (impl_BatchOk.l0 k1 l0_1 (l0_1.length : Int) (wrap64 (x8_1 + 1)) a0_0 l0_1)) else (some false)) else (if x8_1 > 0 then (if 0 ≤ (wrap64 (x8_1 - 1)) then (if (wrap64 (x8_1 - 1)) < (l0_1.length : Int) then (if ((Op.bytesLess (((rd_T109 l0_1 (wrap64 (x8_1 - 1))).f0).toList) (((rd_T109 l0_1 x8_1).f0).toList)) = true) then (impl_BatchOk.l0 k1 l0_1 (l0_1.length : Int) (wrap64 (x8_1 + 1)) a0_0 l0_1) else (some false)) else (none)) else (none)) else (impl_BatchOk.l0 k1 l0_1 (l0_1.length : Int) (wrap64 (x8_1 + 1)) a0_0 l0_1)))) else (some false)) = some r := H
            have A7 := Aside0.mk A70
            clear A70
            by_cases c8 : t109 = true
            · subst c8
              have H1 : (if (((rd_T109 l0_1 x8_1).f1).size : Int) > 40 then (some false) else (if (rd_T109 l0_1 x8_1).f2 = true then (if ((rd_T109 l0_1 x8_1).f1).toList = ([] : List UInt8) then (if x8_1 > 0 then (if 0 ≤ (wrap64 (x8_1 - 1)) then (if (wrap64 (x8_1 - 1)) < (l0_1.length : Int) then (if ((Op.bytesLess (((rd_T109 l0_1 (wrap64 (x8_1 - 1))).f0).toList) (((rd_T109 l0_1 x8_1).f0).toList)) = true) then (impl_BatchOk.l0 k1 l0_1 (l0_1.length : Int) (wrap64 (x8_1 + 1)) a0_0 l0_1) else (some false)) else (none)) else (none)) else (impl_BatchOk.l0 k1 l0_1 (l0_1.length : Int) (wrap64 (x8_1 + 1)) a0_0 l0_1)) else (some false)) else (if x8_1 > 0 then (if 0 ≤ (wrap64 (x8_1 - 1)) then (if (wrap64 (x8_1 - 1)) < (l0_1.length : Int) then (if ((Op.bytesLess (((rd_T109 l0_1 (wrap64 (x8_1 - 1))).f0).toList) (((rd_T109 l0_1 x8_1).f0).toList)) = true) then (impl_BatchOk.l0 k1 l0_1 (l0_1.length : Int) (wrap64 (x8_1 + 1)) a0_0 l0_1) else (some false)) else (none)) else (none)) else (impl_BatchOk.l0 k1 l0_1 (l0_1.length : Int) (wrap64 (x8_1 + 1)) a0_0 l0_1)))) = some r := by rw [if_pos rfl] at H; exact H
              clear H
              have H := H1
              clear H1
              by_cases c9 : (((rd_T109 l0_1 x8_1).f1).size : Int) > 40
              · rw [if_pos c9] at H
                have c9b0 : decide (40 < (((rd_T109 l0_1 x8_1).f1).size : Int)) = true := decide_eq_true c9
                have c9b1 : decide (40 < ((rd_T109 l0_1 x8_1).f1).size) = true := decide_eq_true (by omega)
                clear c9
                obtain rfl := Option.some.inj H
                have p107 : 0 ≤ (x8_1 : Int) := of_decide_eq_true t4_
                have q107 : x8_1 < (l0_1.length : Int) := of_decide_eq_true t4_
                obtain ⟨ad107, e107, hx107_0, hx107_1, hx107_2⟩ := at_T109 HR0_1.out x8_1 p107 q107
                cases e107
                replace hx107_0 := (HB.out.cell (World.block_lt_of_cell? w _ hx107_0)).trans hx107_0
                replace hx107_1 := (HB.out.cell (World.block_lt_of_cell? w _ hx107_1)).trans hx107_1
                replace hx107_2 := (HB.out.cell (World.block_lt_of_cell? w _ hx107_2)).trans hx107_2
                replace p107 := eq_true p107
                replace q107 := eq_true q107
                go_wp2_with (first | ((with_reducible refine gate_dst (N := 4) rfl ?_); (try (refine gate_guard (by rfl) ?_; dsimp only)); refine boxE (N := 4) (cs := #[.string (⟨#[]⟩ : ByteArray), .string (⟨#[]⟩ : ByteArray), .bool false]) (t := 109) (h := ?_); intro gb108 hg w10 hbox hb; have BK108 := Aside0.mk (hbox); have GW108 := Aside0.mk ((t6_ : w.heap.size ≤ gb108)); have GE108 := Aside0.mk ((t6_ : w.heap.size ≤ gb108)); replace HB := Aside0.mk (below_step t2_ hb); have NB106_108 := nbL BK106 hg; have NB108_106 := nbG BK106 hg; replace BK106 := bkN BK106 hb; clear hb hbox hg; have hnb11 := NB108_106.out; have hnc11 := NB106_108.out; have hcz12_0 := bc0 BK108; have hcz12_1 := bc1 BK108; have hcz12_2 := bc2 BK108; have hfz12_0 := bf BK108 0; have hfz12_1 := bf BK108 1; have hfz12_2 := bf BK108 2) | (go_at_call 105; (with_reducible refine (impl_keyOk.calls ((rd_T109 l0_1 x8_1).f0) true _ A7.out).mono ?_); rintro e w' ⟨rfl, ⟨nd, rfl⟩⟩; (try first | exact ⟨rfl, _, World.drewN_drewN _ _ _⟩ | exact ⟨rfl, _, Eq.trans (World.drewN_drewN _ _ _) (congrArg (World.drewN _) (Nat.add_assoc _ _ _))⟩)))
                repeat (go_quiet (first | ((with_reducible refine gate_dst (N := 4) rfl ?_); (try (refine gate_guard (by rfl) ?_; dsimp only)); refine boxE (N := 4) (cs := #[.string (⟨#[]⟩ : ByteArray), .string (⟨#[]⟩ : ByteArray), .bool false]) (t := 109) (h := ?_); intro gb108 hg w10 hbox hb; have BK108 := Aside0.mk (hbox); have GW108 := Aside0.mk ((t6_ : w.heap.size ≤ gb108)); have GE108 := Aside0.mk ((t6_ : w.heap.size ≤ gb108)); replace HB := Aside0.mk (below_step t2_ hb); have NB106_108 := nbL BK106 hg; have NB108_106 := nbG BK106 hg; replace BK106 := bkN BK106 hb; clear hb hbox hg; have hnb11 := NB108_106.out; have hnc11 := NB106_108.out; have hcz12_0 := bc0 BK108; have hcz12_1 := bc1 BK108; have hcz12_2 := bc2 BK108; have hfz12_0 := bf BK108 0; have hfz12_1 := bf BK108 1; have hfz12_2 := bf BK108 2) | (go_at_call 105; (with_reducible refine (impl_keyOk.calls ((rd_T109 l0_1 x8_1).f0) true _ A7.out).mono ?_); rintro e w' ⟨rfl, ⟨nd, rfl⟩⟩; (try first | exact ⟨rfl, _, World.drewN_drewN _ _ _⟩ | exact ⟨rfl, _, Eq.trans (World.drewN_drewN _ _ _) (congrArg (World.drewN _) (Nat.add_assoc _ _ _))⟩))); try go_wp2_with (first | ((with_reducible refine gate_dst (N := 4) rfl ?_); (try (refine gate_guard (by rfl) ?_; dsimp only)); refine boxE (N := 4) (cs := #[.string (⟨#[]⟩ : ByteArray), .string (⟨#[]⟩ : ByteArray), .bool false]) (t := 109) (h := ?_); intro gb108 hg w10 hbox hb; have BK108 := Aside0.mk (hbox); have GW108 := Aside0.mk ((t6_ : w.heap.size ≤ gb108)); have GE108 := Aside0.mk ((t6_ : w.heap.size ≤ gb108)); replace HB := Aside0.mk (below_step t2_ hb); have NB106_108 := nbL BK106 hg; have NB108_106 := nbG BK106 hg; replace BK106 := bkN BK106 hb; clear hb hbox hg; have hnb11 := NB108_106.out; have hnc11 := NB106_108.out; have hcz12_0 := bc0 BK108; have hcz12_1 := bc1 BK108; have hcz12_2 := bc2 BK108; have hfz12_0 := bf BK108 0; have hfz12_1 := bf BK108 1; have hfz12_2 := bf BK108 2) | (go_at_call 105; (with_reducible refine (impl_keyOk.calls ((rd_T109 l0_1 x8_1).f0) true _ A7.out).mono ?_); rintro e w' ⟨rfl, ⟨nd, rfl⟩⟩; (try first | exact ⟨rfl, _, World.drewN_drewN _ _ _⟩ | exact ⟨rfl, _, Eq.trans (World.drewN_drewN _ _ _) (congrArg (World.drewN _) (Nat.add_assoc _ _ _))⟩))))
                go_ret
                exact ⟨by first | rfl | (simp [errW_none, errW_some] <;> rfl) | (simp [*, errW_none, errW_some] <;> rfl), t16_⟩
              · rw [if_neg c9] at H
                have c9b0 : decide (40 < (((rd_T109 l0_1 x8_1).f1).size : Int)) = false := decide_eq_false c9
                have c9b1 : decide (40 < ((rd_T109 l0_1 x8_1).f1).size) = false := decide_eq_false (by omega)
                clear c9
                obtain ⟨bq13, hbq13⟩ : ∃ b_ : Bool, b_ = ((rd_T109 l0_1 x8_1).f2) := ⟨_, rfl⟩
                replace H : (if bq13 = true then (if ((rd_T109 l0_1 x8_1).f1).toList = ([] : List UInt8) then (if x8_1 > 0 then (if 0 ≤ (wrap64 (x8_1 - 1)) then (if (wrap64 (x8_1 - 1)) < (l0_1.length : Int) then (if ((Op.bytesLess (((rd_T109 l0_1 (wrap64 (x8_1 - 1))).f0).toList) (((rd_T109 l0_1 x8_1).f0).toList)) = true) then (impl_BatchOk.l0 k1 l0_1 (l0_1.length : Int) (wrap64 (x8_1 + 1)) a0_0 l0_1) else (some false)) else (none)) else (none)) else (impl_BatchOk.l0 k1 l0_1 (l0_1.length : Int) (wrap64 (x8_1 + 1)) a0_0 l0_1)) else (some false)) else (if x8_1 > 0 then (if 0 ≤ (wrap64 (x8_1 - 1)) then (if (wrap64 (x8_1 - 1)) < (l0_1.length : Int) then (if ((Op.bytesLess (((rd_T109 l0_1 (wrap64 (x8_1 - 1))).f0).toList) (((rd_T109 l0_1 x8_1).f0).toList)) = true) then (impl_BatchOk.l0 k1 l0_1 (l0_1.length : Int) (wrap64 (x8_1 + 1)) a0_0 l0_1) else (some false)) else (none)) else (none)) else (impl_BatchOk.l0 k1 l0_1 (l0_1.length : Int) (wrap64 (x8_1 + 1)) a0_0 l0_1))) = some r := by rw [← hbq13] at H; exact H
                have Nbq13 := Aside0.mk hbq13
                clear hbq13
                by_cases c14 : bq13 = true
                · subst c14
                  have H1 : (if ((rd_T109 l0_1 x8_1).f1).toList = ([] : List UInt8) then (if x8_1 > 0 then (if 0 ≤ (wrap64 (x8_1 - 1)) then (if (wrap64 (x8_1 - 1)) < (l0_1.length : Int) then (if ((Op.bytesLess (((rd_T109 l0_1 (wrap64 (x8_1 - 1))).f0).toList) (((rd_T109 l0_1 x8_1).f0).toList)) = true) then (impl_BatchOk.l0 k1 l0_1 (l0_1.length : Int) (wrap64 (x8_1 + 1)) a0_0 l0_1) else (some false)) else (none)) else (none)) else (impl_BatchOk.l0 k1 l0_1 (l0_1.length : Int) (wrap64 (x8_1 + 1)) a0_0 l0_1)) else (some false)) = some r := by rw [if_pos rfl] at H; exact H
                  clear H
                  have H := H1
                  clear H1
                  by_cases c15 : ((rd_T109 l0_1 x8_1).f1).toList = ([] : List UInt8)
                  · rw [if_pos c15] at H
                    have c15b0 : (((rd_T109 l0_1 x8_1).f1).toList == ([] : List UInt8)) = true := beq_iff_eq.mpr c15
                    have c15b1 : (((rd_T109 l0_1 x8_1).f1).toList != ([] : List UInt8)) = false := bne_eq_false_iff_eq.mpr c15
                    clear c15
                    by_cases c16 : x8_1 > 0
                    · rw [if_pos c16] at H
                      have c16b0 : decide (0 < x8_1) = true := decide_eq_true c16
                      clear c16
                      obtain ⟨ji17, hji17⟩ : ∃ j_ : Int, (wrap64 (x8_1 - 1)) = j_ := ⟨_, rfl⟩
                      replace H : (if 0 ≤ (ji17) then (if (ji17) < (l0_1.length : Int) then (if ((Op.bytesLess (((rd_T109 l0_1 (ji17)).f0).toList) (((rd_T109 l0_1 x8_1).f0).toList)) = true) then (impl_BatchOk.l0 k1 l0_1 (l0_1.length : Int) (wrap64 (x8_1 + 1)) a0_0 l0_1) else (some false)) else (none)) else (none)) = some r := by first | (rw [hji17] at H; exact H) | (simp only [hji17] at H ⊢; exact H)
                      (try rw [hji17] at A7)
                      have hji17w : (IntKind.i64.wrap (x8_1 - 1)) = ji17 := (i64_w _).trans hji17
                      by_cases c18 : 0 ≤ (ji17)
                      · rw [if_pos c18] at H
                        have c18b0 : decide (0 ≤ (ji17)) = true := decide_eq_true c18
                        clear c18
                        by_cases c19 : (ji17) < (l0_1.length : Int)
                        · rw [if_pos c19] at H
                          have c19b0 : decide ((ji17) < (l0_1.length : Int)) = true := decide_eq_true c19
                          clear c19
                          by_cases c20 : ((Op.bytesLess (((rd_T109 l0_1 (ji17)).f0).toList) (((rd_T109 l0_1 x8_1).f0).toList)) = true)
                          · rw [if_pos c20] at H
                            have c20b0 : (Op.bytesLess (((rd_T109 l0_1 (ji17)).f0).toList) (((rd_T109 l0_1 x8_1).f0).toList)) = true := c20
                            obtain ⟨c20b7, c20b6⟩ := bl_gtr_t c20b0
                            clear c20
                            have H' := Aside0.mk H
                            clear H
                            have p107 : 0 ≤ (x8_1 : Int) := of_decide_eq_true t4_
                            have q107 : x8_1 < (l0_1.length : Int) := of_decide_eq_true t4_
                            obtain ⟨ad107, e107, hx107_0, hx107_1, hx107_2⟩ := at_T109 HR0_1.out x8_1 p107 q107
                            (try rw [← Nbq13.out] at hx107_2)
                            (try rw [← Nbq13.out] at hw107_2)
                            cases e107
                            replace hx107_0 := (HB.out.cell (World.block_lt_of_cell? w _ hx107_0)).trans hx107_0
                            replace hx107_1 := (HB.out.cell (World.block_lt_of_cell? w _ hx107_1)).trans hx107_1
                            replace hx107_2 := (HB.out.cell (World.block_lt_of_cell? w _ hx107_2)).trans hx107_2
                            replace p107 := eq_true p107
                            replace q107 := eq_true q107
                            go_wp2_with (first | ((with_reducible refine gate_dst (N := 4) rfl ?_); (try (refine gate_guard (by rfl) ?_; dsimp only)); refine boxE (N := 4) (cs := #[.string (⟨#[]⟩ : ByteArray), .string (⟨#[]⟩ : ByteArray), .bool false]) (t := 109) (h := ?_); intro gb108 hg w21 hbox hb; have BK108 := Aside0.mk (hbox); have GW108 := Aside0.mk ((t6_ : w.heap.size ≤ gb108)); have GE108 := Aside0.mk ((t6_ : w.heap.size ≤ gb108)); replace HB := Aside0.mk (below_step t2_ hb); have NB106_108 := nbL BK106 hg; have NB108_106 := nbG BK106 hg; replace BK106 := bkN BK106 hb; clear hb hbox hg; have hnb22 := NB108_106.out; have hnc22 := NB106_108.out; have hcz23_0 := bc0 BK108; have hcz23_1 := bc1 BK108; have hcz23_2 := bc2 BK108; have hfz23_0 := bf BK108 0; have hfz23_1 := bf BK108 1; have hfz23_2 := bf BK108 2) | (go_at_call 105; (with_reducible refine (impl_keyOk.calls ((rd_T109 l0_1 x8_1).f0) true _ A7.out).mono ?_); rintro e w' ⟨rfl, ⟨nd, rfl⟩⟩; (try first | exact ⟨rfl, _, World.drewN_drewN _ _ _⟩ | exact ⟨rfl, _, Eq.trans (World.drewN_drewN _ _ _) (congrArg (World.drewN _) (Nat.add_assoc _ _ _))⟩); have hcz24_0 := bc0 BK106; have hcz24_1 := bc1 BK106; have hfz24_0 := bf BK106 0; have hfz24_1 := bf BK106 1; have p110 : 0 ≤ ((ji17) : Int) := of_decide_eq_true t4_; have q110 : (ji17) < (l0_1.length : Int) := of_decide_eq_true t4_; obtain ⟨ad110, e110, hx110_0, hx110_1, hx110_2⟩ := at_T109 HR0_1.out (ji17) p110 q110; (try rw [← Nbq13.out] at hx110_2); obtain rfl : ad107 = ad110 := (by injection e110); have hn110_0 : ad107.block ≠ gb108 := Nat.ne_of_lt (Nat.lt_of_lt_of_le (by have := World.block_lt_of_cell? _ _ hx110_0; first | rwa [add_block] at this | exact this) GW108.out); have hn110_1 : ad107.block ≠ gb108 := Nat.ne_of_lt (Nat.lt_of_lt_of_le (by have := World.block_lt_of_cell? _ _ hx110_0; first | rwa [add_block] at this | exact this) GW108.out); have hn110_2 : ad107.block ≠ gb108 := Nat.ne_of_lt (Nat.lt_of_lt_of_le (by have := World.block_lt_of_cell? _ _ hx110_0; first | rwa [add_block] at this | exact this) GW108.out); replace hx110_0 := (HB.out.cell (World.block_lt_of_cell? w _ hx110_0)).trans hx110_0; replace hx110_1 := (HB.out.cell (World.block_lt_of_cell? w _ hx110_1)).trans hx110_1; replace hx110_2 := (HB.out.cell (World.block_lt_of_cell? w _ hx110_2)).trans hx110_2; replace hx110_0 := (cell_far (p := ⟨gb108, 0, none⟩) (by first | (rw [add_block]; exact hn110_0) | (show (Addr.add _ _).block ≠ _; rw [add_block]; exact hn110_0) | exact hn110_0) (.string ((rd_T109 l0_1 x8_1).f0))).trans hx110_0; replace hx110_1 := (cell_far (p := ⟨gb108, 0, none⟩) (by first | (rw [add_block]; exact hn110_0) | (show (Addr.add _ _).block ≠ _; rw [add_block]; exact hn110_0) | exact hn110_0) (.string ((rd_T109 l0_1 x8_1).f0))).trans hx110_1; replace hx110_2 := (cell_far (p := ⟨gb108, 0, none⟩) (by first | (rw [add_block]; exact hn110_0) | (show (Addr.add _ _).block ≠ _; rw [add_block]; exact hn110_0) | exact hn110_0) (.string ((rd_T109 l0_1 x8_1).f0))).trans hx110_2; replace hx110_0 := (cell_far (p := ⟨gb108, 1, none⟩) (by first | (rw [add_block]; exact hn110_1) | (show (Addr.add _ _).block ≠ _; rw [add_block]; exact hn110_1) | exact hn110_1) (.string ((rd_T109 l0_1 x8_1).f1))).trans hx110_0; replace hx110_1 := (cell_far (p := ⟨gb108, 1, none⟩) (by first | (rw [add_block]; exact hn110_1) | (show (Addr.add _ _).block ≠ _; rw [add_block]; exact hn110_1) | exact hn110_1) (.string ((rd_T109 l0_1 x8_1).f1))).trans hx110_1; replace hx110_2 := (cell_far (p := ⟨gb108, 1, none⟩) (by first | (rw [add_block]; exact hn110_1) | (show (Addr.add _ _).block ≠ _; rw [add_block]; exact hn110_1) | exact hn110_1) (.string ((rd_T109 l0_1 x8_1).f1))).trans hx110_2; replace hx110_0 := (cell_far (p := ⟨gb108, 2, none⟩) (by first | (rw [add_block]; exact hn110_2) | (show (Addr.add _ _).block ≠ _; rw [add_block]; exact hn110_2) | exact hn110_2) (.bool true)).trans hx110_0; replace hx110_1 := (cell_far (p := ⟨gb108, 2, none⟩) (by first | (rw [add_block]; exact hn110_2) | (show (Addr.add _ _).block ≠ _; rw [add_block]; exact hn110_2) | exact hn110_2) (.bool true)).trans hx110_1; replace hx110_2 := (cell_far (p := ⟨gb108, 2, none⟩) (by first | (rw [add_block]; exact hn110_2) | (show (Addr.add _ _).block ≠ _; rw [add_block]; exact hn110_2) | exact hn110_2) (.bool true)).trans hx110_2; (try have hy110_0 := fun (n_ : Nat) => (show (((((w21.drewN n_).setCell ⟨gb108, 0, none⟩ (.string ((rd_T109 l0_1 x8_1).f0))).setCell ⟨gb108, 1, none⟩ (.string ((rd_T109 l0_1 x8_1).f1))).setCell ⟨gb108, 2, none⟩ (.bool true))).cell? _ = some _ from hx110_0)); (try have hy110_1 := fun (n_ : Nat) => (show (((((w21.drewN n_).setCell ⟨gb108, 0, none⟩ (.string ((rd_T109 l0_1 x8_1).f0))).setCell ⟨gb108, 1, none⟩ (.string ((rd_T109 l0_1 x8_1).f1))).setCell ⟨gb108, 2, none⟩ (.bool true))).cell? _ = some _ from hx110_1)); (try have hy110_2 := fun (n_ : Nat) => (show (((((w21.drewN n_).setCell ⟨gb108, 0, none⟩ (.string ((rd_T109 l0_1 x8_1).f0))).setCell ⟨gb108, 1, none⟩ (.string ((rd_T109 l0_1 x8_1).f1))).setCell ⟨gb108, 2, none⟩ (.bool true))).cell? _ = some _ from hx110_2)); clear hn110_0; clear hn110_1; clear hn110_2; replace p110 := eq_true p110; replace q110 := eq_true q110))
                            repeat (go_quiet (first | ((with_reducible refine gate_dst (N := 4) rfl ?_); (try (refine gate_guard (by rfl) ?_; dsimp only)); refine boxE (N := 4) (cs := #[.string (⟨#[]⟩ : ByteArray), .string (⟨#[]⟩ : ByteArray), .bool false]) (t := 109) (h := ?_); intro gb108 hg w21 hbox hb; have BK108 := Aside0.mk (hbox); have GW108 := Aside0.mk ((t6_ : w.heap.size ≤ gb108)); have GE108 := Aside0.mk ((t6_ : w.heap.size ≤ gb108)); replace HB := Aside0.mk (below_step t2_ hb); have NB106_108 := nbL BK106 hg; have NB108_106 := nbG BK106 hg; replace BK106 := bkN BK106 hb; clear hb hbox hg; have hnb22 := NB108_106.out; have hnc22 := NB106_108.out; have hcz23_0 := bc0 BK108; have hcz23_1 := bc1 BK108; have hcz23_2 := bc2 BK108; have hfz23_0 := bf BK108 0; have hfz23_1 := bf BK108 1; have hfz23_2 := bf BK108 2) | (go_at_call 105; (with_reducible refine (impl_keyOk.calls ((rd_T109 l0_1 x8_1).f0) true _ A7.out).mono ?_); rintro e w' ⟨rfl, ⟨nd, rfl⟩⟩; (try first | exact ⟨rfl, _, World.drewN_drewN _ _ _⟩ | exact ⟨rfl, _, Eq.trans (World.drewN_drewN _ _ _) (congrArg (World.drewN _) (Nat.add_assoc _ _ _))⟩); have hcz24_0 := bc0 BK106; have hcz24_1 := bc1 BK106; have hfz24_0 := bf BK106 0; have hfz24_1 := bf BK106 1; have p110 : 0 ≤ ((ji17) : Int) := of_decide_eq_true t4_; have q110 : (ji17) < (l0_1.length : Int) := of_decide_eq_true t4_; obtain ⟨ad110, e110, hx110_0, hx110_1, hx110_2⟩ := at_T109 HR0_1.out (ji17) p110 q110; (try rw [← Nbq13.out] at hx110_2); obtain rfl : ad107 = ad110 := (by injection e110); have hn110_0 : ad107.block ≠ gb108 := Nat.ne_of_lt (Nat.lt_of_lt_of_le (by have := World.block_lt_of_cell? _ _ hx110_0; first | rwa [add_block] at this | exact this) GW108.out); have hn110_1 : ad107.block ≠ gb108 := Nat.ne_of_lt (Nat.lt_of_lt_of_le (by have := World.block_lt_of_cell? _ _ hx110_0; first | rwa [add_block] at this | exact this) GW108.out); have hn110_2 : ad107.block ≠ gb108 := Nat.ne_of_lt (Nat.lt_of_lt_of_le (by have := World.block_lt_of_cell? _ _ hx110_0; first | rwa [add_block] at this | exact this) GW108.out); replace hx110_0 := (HB.out.cell (World.block_lt_of_cell? w _ hx110_0)).trans hx110_0; replace hx110_1 := (HB.out.cell (World.block_lt_of_cell? w _ hx110_1)).trans hx110_1; replace hx110_2 := (HB.out.cell (World.block_lt_of_cell? w _ hx110_2)).trans hx110_2; replace hx110_0 := (cell_far (p := ⟨gb108, 0, none⟩) (by first | (rw [add_block]; exact hn110_0) | (show (Addr.add _ _).block ≠ _; rw [add_block]; exact hn110_0) | exact hn110_0) (.string ((rd_T109 l0_1 x8_1).f0))).trans hx110_0; replace hx110_1 := (cell_far (p := ⟨gb108, 0, none⟩) (by first | (rw [add_block]; exact hn110_0) | (show (Addr.add _ _).block ≠ _; rw [add_block]; exact hn110_0) | exact hn110_0) (.string ((rd_T109 l0_1 x8_1).f0))).trans hx110_1; replace hx110_2 := (cell_far (p := ⟨gb108, 0, none⟩) (by first | (rw [add_block]; exact hn110_0) | (show (Addr.add _ _).block ≠ _; rw [add_block]; exact hn110_0) | exact hn110_0) (.string ((rd_T109 l0_1 x8_1).f0))).trans hx110_2; replace hx110_0 := (cell_far (p := ⟨gb108, 1, none⟩) (by first | (rw [add_block]; exact hn110_1) | (show (Addr.add _ _).block ≠ _; rw [add_block]; exact hn110_1) | exact hn110_1) (.string ((rd_T109 l0_1 x8_1).f1))).trans hx110_0; replace hx110_1 := (cell_far (p := ⟨gb108, 1, none⟩) (by first | (rw [add_block]; exact hn110_1) | (show (Addr.add _ _).block ≠ _; rw [add_block]; exact hn110_1) | exact hn110_1) (.string ((rd_T109 l0_1 x8_1).f1))).trans hx110_1; replace hx110_2 := (cell_far (p := ⟨gb108, 1, none⟩) (by first | (rw [add_block]; exact hn110_1) | (show (Addr.add _ _).block ≠ _; rw [add_block]; exact hn110_1) | exact hn110_1) (.string ((rd_T109 l0_1 x8_1).f1))).trans hx110_2; replace hx110_0 := (cell_far (p := ⟨gb108, 2, none⟩) (by first | (rw [add_block]; exact hn110_2) | (show (Addr.add _ _).block ≠ _; rw [add_block]; exact hn110_2) | exact hn110_2) (.bool true)).trans hx110_0; replace hx110_1 := (cell_far (p := ⟨gb108, 2, none⟩) (by first | (rw [add_block]; exact hn110_2) | (show (Addr.add _ _).block ≠ _; rw [add_block]; exact hn110_2) | exact hn110_2) (.bool true)).trans hx110_1; replace hx110_2 := (cell_far (p := ⟨gb108, 2, none⟩) (by first | (rw [add_block]; exact hn110_2) | (show (Addr.add _ _).block ≠ _; rw [add_block]; exact hn110_2) | exact hn110_2) (.bool true)).trans hx110_2; (try have hy110_0 := fun (n_ : Nat) => (show (((((w21.drewN n_).setCell ⟨gb108, 0, none⟩ (.string ((rd_T109 l0_1 x8_1).f0))).setCell ⟨gb108, 1, none⟩ (.string ((rd_T109 l0_1 x8_1).f1))).setCell ⟨gb108, 2, none⟩ (.bool true))).cell? _ = some _ from hx110_0)); (try have hy110_1 := fun (n_ : Nat) => (show (((((w21.drewN n_).setCell ⟨gb108, 0, none⟩ (.string ((rd_T109 l0_1 x8_1).f0))).setCell ⟨gb108, 1, none⟩ (.string ((rd_T109 l0_1 x8_1).f1))).setCell ⟨gb108, 2, none⟩ (.bool true))).cell? _ = some _ from hx110_1)); (try have hy110_2 := fun (n_ : Nat) => (show (((((w21.drewN n_).setCell ⟨gb108, 0, none⟩ (.string ((rd_T109 l0_1 x8_1).f0))).setCell ⟨gb108, 1, none⟩ (.string ((rd_T109 l0_1 x8_1).f1))).setCell ⟨gb108, 2, none⟩ (.bool true))).cell? _ = some _ from hx110_2)); clear hn110_0; clear hn110_1; clear hn110_2; replace p110 := eq_true p110; replace q110 := eq_true q110)); try go_wp2_with (first | ((with_reducible refine gate_dst (N := 4) rfl ?_); (try (refine gate_guard (by rfl) ?_; dsimp only)); refine boxE (N := 4) (cs := #[.string (⟨#[]⟩ : ByteArray), .string (⟨#[]⟩ : ByteArray), .bool false]) (t := 109) (h := ?_); intro gb108 hg w21 hbox hb; have BK108 := Aside0.mk (hbox); have GW108 := Aside0.mk ((t6_ : w.heap.size ≤ gb108)); have GE108 := Aside0.mk ((t6_ : w.heap.size ≤ gb108)); replace HB := Aside0.mk (below_step t2_ hb); have NB106_108 := nbL BK106 hg; have NB108_106 := nbG BK106 hg; replace BK106 := bkN BK106 hb; clear hb hbox hg; have hnb22 := NB108_106.out; have hnc22 := NB106_108.out; have hcz23_0 := bc0 BK108; have hcz23_1 := bc1 BK108; have hcz23_2 := bc2 BK108; have hfz23_0 := bf BK108 0; have hfz23_1 := bf BK108 1; have hfz23_2 := bf BK108 2) | (go_at_call 105; (with_reducible refine (impl_keyOk.calls ((rd_T109 l0_1 x8_1).f0) true _ A7.out).mono ?_); rintro e w' ⟨rfl, ⟨nd, rfl⟩⟩; (try first | exact ⟨rfl, _, World.drewN_drewN _ _ _⟩ | exact ⟨rfl, _, Eq.trans (World.drewN_drewN _ _ _) (congrArg (World.drewN _) (Nat.add_assoc _ _ _))⟩); have hcz24_0 := bc0 BK106; have hcz24_1 := bc1 BK106; have hfz24_0 := bf BK106 0; have hfz24_1 := bf BK106 1; have p110 : 0 ≤ ((ji17) : Int) := of_decide_eq_true t4_; have q110 : (ji17) < (l0_1.length : Int) := of_decide_eq_true t4_; obtain ⟨ad110, e110, hx110_0, hx110_1, hx110_2⟩ := at_T109 HR0_1.out (ji17) p110 q110; (try rw [← Nbq13.out] at hx110_2); obtain rfl : ad107 = ad110 := (by injection e110); have hn110_0 : ad107.block ≠ gb108 := Nat.ne_of_lt (Nat.lt_of_lt_of_le (by have := World.block_lt_of_cell? _ _ hx110_0; first | rwa [add_block] at this | exact this) GW108.out); have hn110_1 : ad107.block ≠ gb108 := Nat.ne_of_lt (Nat.lt_of_lt_of_le (by have := World.block_lt_of_cell? _ _ hx110_0; first | rwa [add_block] at this | exact this) GW108.out); have hn110_2 : ad107.block ≠ gb108 := Nat.ne_of_lt (Nat.lt_of_lt_of_le (by have := World.block_lt_of_cell? _ _ hx110_0; first | rwa [add_block] at this | exact this) GW108.out); replace hx110_0 := (HB.out.cell (World.block_lt_of_cell? w _ hx110_0)).trans hx110_0; replace hx110_1 := (HB.out.cell (World.block_lt_of_cell? w _ hx110_1)).trans hx110_1; replace hx110_2 := (HB.out.cell (World.block_lt_of_cell? w _ hx110_2)).trans hx110_2; replace hx110_0 := (cell_far (p := ⟨gb108, 0, none⟩) (by first | (rw [add_block]; exact hn110_0) | (show (Addr.add _ _).block ≠ _; rw [add_block]; exact hn110_0) | exact hn110_0) (.string ((rd_T109 l0_1 x8_1).f0))).trans hx110_0; replace hx110_1 := (cell_far (p := ⟨gb108, 0, none⟩) (by first | (rw [add_block]; exact hn110_0) | (show (Addr.add _ _).block ≠ _; rw [add_block]; exact hn110_0) | exact hn110_0) (.string ((rd_T109 l0_1 x8_1).f0))).trans hx110_1; replace hx110_2 := (cell_far (p := ⟨gb108, 0, none⟩) (by first | (rw [add_block]; exact hn110_0) | (show (Addr.add _ _).block ≠ _; rw [add_block]; exact hn110_0) | exact hn110_0) (.string ((rd_T109 l0_1 x8_1).f0))).trans hx110_2; replace hx110_0 := (cell_far (p := ⟨gb108, 1, none⟩) (by first | (rw [add_block]; exact hn110_1) | (show (Addr.add _ _).block ≠ _; rw [add_block]; exact hn110_1) | exact hn110_1) (.string ((rd_T109 l0_1 x8_1).f1))).trans hx110_0; replace hx110_1 := (cell_far (p := ⟨gb108, 1, none⟩) (by first | (rw [add_block]; exact hn110_1) | (show (Addr.add _ _).block ≠ _; rw [add_block]; exact hn110_1) | exact hn110_1) (.string ((rd_T109 l0_1 x8_1).f1))).trans hx110_1; replace hx110_2 := (cell_far (p := ⟨gb108, 1, none⟩) (by first | (rw [add_block]; exact hn110_1) | (show (Addr.add _ _).block ≠ _; rw [add_block]; exact hn110_1) | exact hn110_1) (.string ((rd_T109 l0_1 x8_1).f1))).trans hx110_2; replace hx110_0 := (cell_far (p := ⟨gb108, 2, none⟩) (by first | (rw [add_block]; exact hn110_2) | (show (Addr.add _ _).block ≠ _; rw [add_block]; exact hn110_2) | exact hn110_2) (.bool true)).trans hx110_0; replace hx110_1 := (cell_far (p := ⟨gb108, 2, none⟩) (by first | (rw [add_block]; exact hn110_2) | (show (Addr.add _ _).block ≠ _; rw [add_block]; exact hn110_2) | exact hn110_2) (.bool true)).trans hx110_1; replace hx110_2 := (cell_far (p := ⟨gb108, 2, none⟩) (by first | (rw [add_block]; exact hn110_2) | (show (Addr.add _ _).block ≠ _; rw [add_block]; exact hn110_2) | exact hn110_2) (.bool true)).trans hx110_2; (try have hy110_0 := fun (n_ : Nat) => (show (((((w21.drewN n_).setCell ⟨gb108, 0, none⟩ (.string ((rd_T109 l0_1 x8_1).f0))).setCell ⟨gb108, 1, none⟩ (.string ((rd_T109 l0_1 x8_1).f1))).setCell ⟨gb108, 2, none⟩ (.bool true))).cell? _ = some _ from hx110_0)); (try have hy110_1 := fun (n_ : Nat) => (show (((((w21.drewN n_).setCell ⟨gb108, 0, none⟩ (.string ((rd_T109 l0_1 x8_1).f0))).setCell ⟨gb108, 1, none⟩ (.string ((rd_T109 l0_1 x8_1).f1))).setCell ⟨gb108, 2, none⟩ (.bool true))).cell? _ = some _ from hx110_1)); (try have hy110_2 := fun (n_ : Nat) => (show (((((w21.drewN n_).setCell ⟨gb108, 0, none⟩ (.string ((rd_T109 l0_1 x8_1).f0))).setCell ⟨gb108, 1, none⟩ (.string ((rd_T109 l0_1 x8_1).f1))).setCell ⟨gb108, 2, none⟩ (.bool true))).cell? _ = some _ from hx110_2)); clear hn110_0; clear hn110_1; clear hn110_2; replace p110 := eq_true p110; replace q110 := eq_true q110)))
                            go_roundg k1
                            case measure => have := HK1.out; omega
                            case rel => exact ⟨(wrap64 (x8_1 + 1)), t10_, H', ⟨by have := HK1.out; omega⟩, ⟨by (with_reducible repeat (first | refine blk_drewN ?_ _ | refine blk_drew ?_ | refine blk_alloc ?_ _)); refine blk_far ?_ NB106_108.out _; (with_reducible repeat (first | refine blk_drewN ?_ _ | refine blk_drew ?_ | refine blk_alloc ?_ _)); refine blk_far ?_ NB106_108.out _; (with_reducible repeat (first | refine blk_drewN ?_ _ | refine blk_drew ?_ | refine blk_alloc ?_ _)); refine blk_far ?_ NB106_108.out _; (with_reducible repeat (first | refine blk_drewN ?_ _ | refine blk_drew ?_ | refine blk_alloc ?_ _)); exact BK106.out⟩, ⟨t16_⟩⟩
                          · rw [if_neg c20] at H
                            have c20b0 : (Op.bytesLess (((rd_T109 l0_1 (ji17)).f0).toList) (((rd_T109 l0_1 x8_1).f0).toList)) = false := by simpa using c20
                            obtain ⟨c20b7, c20b6⟩ := bl_gtr_f c20b0
                            clear c20
                            obtain rfl := Option.some.inj H
                            have p107 : 0 ≤ (x8_1 : Int) := of_decide_eq_true t4_
                            have q107 : x8_1 < (l0_1.length : Int) := of_decide_eq_true t4_
                            obtain ⟨ad107, e107, hx107_0, hx107_1, hx107_2⟩ := at_T109 HR0_1.out x8_1 p107 q107
                            (try rw [← Nbq13.out] at hx107_2)
                            (try rw [← Nbq13.out] at hw107_2)
                            cases e107
                            replace hx107_0 := (HB.out.cell (World.block_lt_of_cell? w _ hx107_0)).trans hx107_0
                            replace hx107_1 := (HB.out.cell (World.block_lt_of_cell? w _ hx107_1)).trans hx107_1
                            replace hx107_2 := (HB.out.cell (World.block_lt_of_cell? w _ hx107_2)).trans hx107_2
                            replace p107 := eq_true p107
                            replace q107 := eq_true q107
                            go_wp2_with (first | ((with_reducible refine gate_dst (N := 4) rfl ?_); (try (refine gate_guard (by rfl) ?_; dsimp only)); refine boxE (N := 4) (cs := #[.string (⟨#[]⟩ : ByteArray), .string (⟨#[]⟩ : ByteArray), .bool false]) (t := 109) (h := ?_); intro gb108 hg w25 hbox hb; have BK108 := Aside0.mk (hbox); have GW108 := Aside0.mk ((t6_ : w.heap.size ≤ gb108)); have GE108 := Aside0.mk ((t6_ : w.heap.size ≤ gb108)); replace HB := Aside0.mk (below_step t2_ hb); have NB106_108 := nbL BK106 hg; have NB108_106 := nbG BK106 hg; replace BK106 := bkN BK106 hb; clear hb hbox hg; have hnb26 := NB108_106.out; have hnc26 := NB106_108.out; have hcz27_0 := bc0 BK108; have hcz27_1 := bc1 BK108; have hcz27_2 := bc2 BK108; have hfz27_0 := bf BK108 0; have hfz27_1 := bf BK108 1; have hfz27_2 := bf BK108 2) | (go_at_call 105; (with_reducible refine (impl_keyOk.calls ((rd_T109 l0_1 x8_1).f0) true _ A7.out).mono ?_); rintro e w' ⟨rfl, ⟨nd, rfl⟩⟩; (try first | exact ⟨rfl, _, World.drewN_drewN _ _ _⟩ | exact ⟨rfl, _, Eq.trans (World.drewN_drewN _ _ _) (congrArg (World.drewN _) (Nat.add_assoc _ _ _))⟩); have hcz28_0 := bc0 BK106; have hcz28_1 := bc1 BK106; have hfz28_0 := bf BK106 0; have hfz28_1 := bf BK106 1; have p110 : 0 ≤ ((ji17) : Int) := of_decide_eq_true t4_; have q110 : (ji17) < (l0_1.length : Int) := of_decide_eq_true t4_; obtain ⟨ad110, e110, hx110_0, hx110_1, hx110_2⟩ := at_T109 HR0_1.out (ji17) p110 q110; (try rw [← Nbq13.out] at hx110_2); obtain rfl : ad107 = ad110 := (by injection e110); have hn110_0 : ad107.block ≠ gb108 := Nat.ne_of_lt (Nat.lt_of_lt_of_le (by have := World.block_lt_of_cell? _ _ hx110_0; first | rwa [add_block] at this | exact this) GW108.out); have hn110_1 : ad107.block ≠ gb108 := Nat.ne_of_lt (Nat.lt_of_lt_of_le (by have := World.block_lt_of_cell? _ _ hx110_0; first | rwa [add_block] at this | exact this) GW108.out); have hn110_2 : ad107.block ≠ gb108 := Nat.ne_of_lt (Nat.lt_of_lt_of_le (by have := World.block_lt_of_cell? _ _ hx110_0; first | rwa [add_block] at this | exact this) GW108.out); replace hx110_0 := (HB.out.cell (World.block_lt_of_cell? w _ hx110_0)).trans hx110_0; replace hx110_1 := (HB.out.cell (World.block_lt_of_cell? w _ hx110_1)).trans hx110_1; replace hx110_2 := (HB.out.cell (World.block_lt_of_cell? w _ hx110_2)).trans hx110_2; replace hx110_0 := (cell_far (p := ⟨gb108, 0, none⟩) (by first | (rw [add_block]; exact hn110_0) | (show (Addr.add _ _).block ≠ _; rw [add_block]; exact hn110_0) | exact hn110_0) (.string ((rd_T109 l0_1 x8_1).f0))).trans hx110_0; replace hx110_1 := (cell_far (p := ⟨gb108, 0, none⟩) (by first | (rw [add_block]; exact hn110_0) | (show (Addr.add _ _).block ≠ _; rw [add_block]; exact hn110_0) | exact hn110_0) (.string ((rd_T109 l0_1 x8_1).f0))).trans hx110_1; replace hx110_2 := (cell_far (p := ⟨gb108, 0, none⟩) (by first | (rw [add_block]; exact hn110_0) | (show (Addr.add _ _).block ≠ _; rw [add_block]; exact hn110_0) | exact hn110_0) (.string ((rd_T109 l0_1 x8_1).f0))).trans hx110_2; replace hx110_0 := (cell_far (p := ⟨gb108, 1, none⟩) (by first | (rw [add_block]; exact hn110_1) | (show (Addr.add _ _).block ≠ _; rw [add_block]; exact hn110_1) | exact hn110_1) (.string ((rd_T109 l0_1 x8_1).f1))).trans hx110_0; replace hx110_1 := (cell_far (p := ⟨gb108, 1, none⟩) (by first | (rw [add_block]; exact hn110_1) | (show (Addr.add _ _).block ≠ _; rw [add_block]; exact hn110_1) | exact hn110_1) (.string ((rd_T109 l0_1 x8_1).f1))).trans hx110_1; replace hx110_2 := (cell_far (p := ⟨gb108, 1, none⟩) (by first | (rw [add_block]; exact hn110_1) | (show (Addr.add _ _).block ≠ _; rw [add_block]; exact hn110_1) | exact hn110_1) (.string ((rd_T109 l0_1 x8_1).f1))).trans hx110_2; replace hx110_0 := (cell_far (p := ⟨gb108, 2, none⟩) (by first | (rw [add_block]; exact hn110_2) | (show (Addr.add _ _).block ≠ _; rw [add_block]; exact hn110_2) | exact hn110_2) (.bool true)).trans hx110_0; replace hx110_1 := (cell_far (p := ⟨gb108, 2, none⟩) (by first | (rw [add_block]; exact hn110_2) | (show (Addr.add _ _).block ≠ _; rw [add_block]; exact hn110_2) | exact hn110_2) (.bool true)).trans hx110_1; replace hx110_2 := (cell_far (p := ⟨gb108, 2, none⟩) (by first | (rw [add_block]; exact hn110_2) | (show (Addr.add _ _).block ≠ _; rw [add_block]; exact hn110_2) | exact hn110_2) (.bool true)).trans hx110_2; (try have hy110_0 := fun (n_ : Nat) => (show (((((w25.drewN n_).setCell ⟨gb108, 0, none⟩ (.string ((rd_T109 l0_1 x8_1).f0))).setCell ⟨gb108, 1, none⟩ (.string ((rd_T109 l0_1 x8_1).f1))).setCell ⟨gb108, 2, none⟩ (.bool true))).cell? _ = some _ from hx110_0)); (try have hy110_1 := fun (n_ : Nat) => (show (((((w25.drewN n_).setCell ⟨gb108, 0, none⟩ (.string ((rd_T109 l0_1 x8_1).f0))).setCell ⟨gb108, 1, none⟩ (.string ((rd_T109 l0_1 x8_1).f1))).setCell ⟨gb108, 2, none⟩ (.bool true))).cell? _ = some _ from hx110_1)); (try have hy110_2 := fun (n_ : Nat) => (show (((((w25.drewN n_).setCell ⟨gb108, 0, none⟩ (.string ((rd_T109 l0_1 x8_1).f0))).setCell ⟨gb108, 1, none⟩ (.string ((rd_T109 l0_1 x8_1).f1))).setCell ⟨gb108, 2, none⟩ (.bool true))).cell? _ = some _ from hx110_2)); clear hn110_0; clear hn110_1; clear hn110_2; replace p110 := eq_true p110; replace q110 := eq_true q110))
                            repeat (go_quiet (first | ((with_reducible refine gate_dst (N := 4) rfl ?_); (try (refine gate_guard (by rfl) ?_; dsimp only)); refine boxE (N := 4) (cs := #[.string (⟨#[]⟩ : ByteArray), .string (⟨#[]⟩ : ByteArray), .bool false]) (t := 109) (h := ?_); intro gb108 hg w25 hbox hb; have BK108 := Aside0.mk (hbox); have GW108 := Aside0.mk ((t6_ : w.heap.size ≤ gb108)); have GE108 := Aside0.mk ((t6_ : w.heap.size ≤ gb108)); replace HB := Aside0.mk (below_step t2_ hb); have NB106_108 := nbL BK106 hg; have NB108_106 := nbG BK106 hg; replace BK106 := bkN BK106 hb; clear hb hbox hg; have hnb26 := NB108_106.out; have hnc26 := NB106_108.out; have hcz27_0 := bc0 BK108; have hcz27_1 := bc1 BK108; have hcz27_2 := bc2 BK108; have hfz27_0 := bf BK108 0; have hfz27_1 := bf BK108 1; have hfz27_2 := bf BK108 2) | (go_at_call 105; (with_reducible refine (impl_keyOk.calls ((rd_T109 l0_1 x8_1).f0) true _ A7.out).mono ?_); rintro e w' ⟨rfl, ⟨nd, rfl⟩⟩; (try first | exact ⟨rfl, _, World.drewN_drewN _ _ _⟩ | exact ⟨rfl, _, Eq.trans (World.drewN_drewN _ _ _) (congrArg (World.drewN _) (Nat.add_assoc _ _ _))⟩); have hcz28_0 := bc0 BK106; have hcz28_1 := bc1 BK106; have hfz28_0 := bf BK106 0; have hfz28_1 := bf BK106 1; have p110 : 0 ≤ ((ji17) : Int) := of_decide_eq_true t4_; have q110 : (ji17) < (l0_1.length : Int) := of_decide_eq_true t4_; obtain ⟨ad110, e110, hx110_0, hx110_1, hx110_2⟩ := at_T109 HR0_1.out (ji17) p110 q110; (try rw [← Nbq13.out] at hx110_2); obtain rfl : ad107 = ad110 := (by injection e110); have hn110_0 : ad107.block ≠ gb108 := Nat.ne_of_lt (Nat.lt_of_lt_of_le (by have := World.block_lt_of_cell? _ _ hx110_0; first | rwa [add_block] at this | exact this) GW108.out); have hn110_1 : ad107.block ≠ gb108 := Nat.ne_of_lt (Nat.lt_of_lt_of_le (by have := World.block_lt_of_cell? _ _ hx110_0; first | rwa [add_block] at this | exact this) GW108.out); have hn110_2 : ad107.block ≠ gb108 := Nat.ne_of_lt (Nat.lt_of_lt_of_le (by have := World.block_lt_of_cell? _ _ hx110_0; first | rwa [add_block] at this | exact this) GW108.out); replace hx110_0 := (HB.out.cell (World.block_lt_of_cell? w _ hx110_0)).trans hx110_0; replace hx110_1 := (HB.out.cell (World.block_lt_of_cell? w _ hx110_1)).trans hx110_1; replace hx110_2 := (HB.out.cell (World.block_lt_of_cell? w _ hx110_2)).trans hx110_2; replace hx110_0 := (cell_far (p := ⟨gb108, 0, none⟩) (by first | (rw [add_block]; exact hn110_0) | (show (Addr.add _ _).block ≠ _; rw [add_block]; exact hn110_0) | exact hn110_0) (.string ((rd_T109 l0_1 x8_1).f0))).trans hx110_0; replace hx110_1 := (cell_far (p := ⟨gb108, 0, none⟩) (by first | (rw [add_block]; exact hn110_0) | (show (Addr.add _ _).block ≠ _; rw [add_block]; exact hn110_0) | exact hn110_0) (.string ((rd_T109 l0_1 x8_1).f0))).trans hx110_1; replace hx110_2 := (cell_far (p := ⟨gb108, 0, none⟩) (by first | (rw [add_block]; exact hn110_0) | (show (Addr.add _ _).block ≠ _; rw [add_block]; exact hn110_0) | exact hn110_0) (.string ((rd_T109 l0_1 x8_1).f0))).trans hx110_2; replace hx110_0 := (cell_far (p := ⟨gb108, 1, none⟩) (by first | (rw [add_block]; exact hn110_1) | (show (Addr.add _ _).block ≠ _; rw [add_block]; exact hn110_1) | exact hn110_1) (.string ((rd_T109 l0_1 x8_1).f1))).trans hx110_0; replace hx110_1 := (cell_far (p := ⟨gb108, 1, none⟩) (by first | (rw [add_block]; exact hn110_1) | (show (Addr.add _ _).block ≠ _; rw [add_block]; exact hn110_1) | exact hn110_1) (.string ((rd_T109 l0_1 x8_1).f1))).trans hx110_1; replace hx110_2 := (cell_far (p := ⟨gb108, 1, none⟩) (by first | (rw [add_block]; exact hn110_1) | (show (Addr.add _ _).block ≠ _; rw [add_block]; exact hn110_1) | exact hn110_1) (.string ((rd_T109 l0_1 x8_1).f1))).trans hx110_2; replace hx110_0 := (cell_far (p := ⟨gb108, 2, none⟩) (by first | (rw [add_block]; exact hn110_2) | (show (Addr.add _ _).block ≠ _; rw [add_block]; exact hn110_2) | exact hn110_2) (.bool true)).trans hx110_0; replace hx110_1 := (cell_far (p := ⟨gb108, 2, none⟩) (by first | (rw [add_block]; exact hn110_2) | (show (Addr.add _ _).block ≠ _; rw [add_block]; exact hn110_2) | exact hn110_2) (.bool true)).trans hx110_1; replace hx110_2 := (cell_far (p := ⟨gb108, 2, none⟩) (by first | (rw [add_block]; exact hn110_2) | (show (Addr.add _ _).block ≠ _; rw [add_block]; exact hn110_2) | exact hn110_2) (.bool true)).trans hx110_2; (try have hy110_0 := fun (n_ : Nat) => (show (((((w25.drewN n_).setCell ⟨gb108, 0, none⟩ (.string ((rd_T109 l0_1 x8_1).f0))).setCell ⟨gb108, 1, none⟩ (.string ((rd_T109 l0_1 x8_1).f1))).setCell ⟨gb108, 2, none⟩ (.bool true))).cell? _ = some _ from hx110_0)); (try have hy110_1 := fun (n_ : Nat) => (show (((((w25.drewN n_).setCell ⟨gb108, 0, none⟩ (.string ((rd_T109 l0_1 x8_1).f0))).setCell ⟨gb108, 1, none⟩ (.string ((rd_T109 l0_1 x8_1).f1))).setCell ⟨gb108, 2, none⟩ (.bool true))).cell? _ = some _ from hx110_1)); (try have hy110_2 := fun (n_ : Nat) => (show (((((w25.drewN n_).setCell ⟨gb108, 0, none⟩ (.string ((rd_T109 l0_1 x8_1).f0))).setCell ⟨gb108, 1, none⟩ (.string ((rd_T109 l0_1 x8_1).f1))).setCell ⟨gb108, 2, none⟩ (.bool true))).cell? _ = some _ from hx110_2)); clear hn110_0; clear hn110_1; clear hn110_2; replace p110 := eq_true p110; replace q110 := eq_true q110)); try go_wp2_with (first | ((with_reducible refine gate_dst (N := 4) rfl ?_); (try (refine gate_guard (by rfl) ?_; dsimp only)); refine boxE (N := 4) (cs := #[.string (⟨#[]⟩ : ByteArray), .string (⟨#[]⟩ : ByteArray), .bool false]) (t := 109) (h := ?_); intro gb108 hg w25 hbox hb; have BK108 := Aside0.mk (hbox); have GW108 := Aside0.mk ((t6_ : w.heap.size ≤ gb108)); have GE108 := Aside0.mk ((t6_ : w.heap.size ≤ gb108)); replace HB := Aside0.mk (below_step t2_ hb); have NB106_108 := nbL BK106 hg; have NB108_106 := nbG BK106 hg; replace BK106 := bkN BK106 hb; clear hb hbox hg; have hnb26 := NB108_106.out; have hnc26 := NB106_108.out; have hcz27_0 := bc0 BK108; have hcz27_1 := bc1 BK108; have hcz27_2 := bc2 BK108; have hfz27_0 := bf BK108 0; have hfz27_1 := bf BK108 1; have hfz27_2 := bf BK108 2) | (go_at_call 105; (with_reducible refine (impl_keyOk.calls ((rd_T109 l0_1 x8_1).f0) true _ A7.out).mono ?_); rintro e w' ⟨rfl, ⟨nd, rfl⟩⟩; (try first | exact ⟨rfl, _, World.drewN_drewN _ _ _⟩ | exact ⟨rfl, _, Eq.trans (World.drewN_drewN _ _ _) (congrArg (World.drewN _) (Nat.add_assoc _ _ _))⟩); have hcz28_0 := bc0 BK106; have hcz28_1 := bc1 BK106; have hfz28_0 := bf BK106 0; have hfz28_1 := bf BK106 1; have p110 : 0 ≤ ((ji17) : Int) := of_decide_eq_true t4_; have q110 : (ji17) < (l0_1.length : Int) := of_decide_eq_true t4_; obtain ⟨ad110, e110, hx110_0, hx110_1, hx110_2⟩ := at_T109 HR0_1.out (ji17) p110 q110; (try rw [← Nbq13.out] at hx110_2); obtain rfl : ad107 = ad110 := (by injection e110); have hn110_0 : ad107.block ≠ gb108 := Nat.ne_of_lt (Nat.lt_of_lt_of_le (by have := World.block_lt_of_cell? _ _ hx110_0; first | rwa [add_block] at this | exact this) GW108.out); have hn110_1 : ad107.block ≠ gb108 := Nat.ne_of_lt (Nat.lt_of_lt_of_le (by have := World.block_lt_of_cell? _ _ hx110_0; first | rwa [add_block] at this | exact this) GW108.out); have hn110_2 : ad107.block ≠ gb108 := Nat.ne_of_lt (Nat.lt_of_lt_of_le (by have := World.block_lt_of_cell? _ _ hx110_0; first | rwa [add_block] at this | exact this) GW108.out); replace hx110_0 := (HB.out.cell (World.block_lt_of_cell? w _ hx110_0)).trans hx110_0; replace hx110_1 := (HB.out.cell (World.block_lt_of_cell? w _ hx110_1)).trans hx110_1; replace hx110_2 := (HB.out.cell (World.block_lt_of_cell? w _ hx110_2)).trans hx110_2; replace hx110_0 := (cell_far (p := ⟨gb108, 0, none⟩) (by first | (rw [add_block]; exact hn110_0) | (show (Addr.add _ _).block ≠ _; rw [add_block]; exact hn110_0) | exact hn110_0) (.string ((rd_T109 l0_1 x8_1).f0))).trans hx110_0; replace hx110_1 := (cell_far (p := ⟨gb108, 0, none⟩) (by first | (rw [add_block]; exact hn110_0) | (show (Addr.add _ _).block ≠ _; rw [add_block]; exact hn110_0) | exact hn110_0) (.string ((rd_T109 l0_1 x8_1).f0))).trans hx110_1; replace hx110_2 := (cell_far (p := ⟨gb108, 0, none⟩) (by first | (rw [add_block]; exact hn110_0) | (show (Addr.add _ _).block ≠ _; rw [add_block]; exact hn110_0) | exact hn110_0) (.string ((rd_T109 l0_1 x8_1).f0))).trans hx110_2; replace hx110_0 := (cell_far (p := ⟨gb108, 1, none⟩) (by first | (rw [add_block]; exact hn110_1) | (show (Addr.add _ _).block ≠ _; rw [add_block]; exact hn110_1) | exact hn110_1) (.string ((rd_T109 l0_1 x8_1).f1))).trans hx110_0; replace hx110_1 := (cell_far (p := ⟨gb108, 1, none⟩) (by first | (rw [add_block]; exact hn110_1) | (show (Addr.add _ _).block ≠ _; rw [add_block]; exact hn110_1) | exact hn110_1) (.string ((rd_T109 l0_1 x8_1).f1))).trans hx110_1; replace hx110_2 := (cell_far (p := ⟨gb108, 1, none⟩) (by first | (rw [add_block]; exact hn110_1) | (show (Addr.add _ _).block ≠ _; rw [add_block]; exact hn110_1) | exact hn110_1) (.string ((rd_T109 l0_1 x8_1).f1))).trans hx110_2; replace hx110_0 := (cell_far (p := ⟨gb108, 2, none⟩) (by first | (rw [add_block]; exact hn110_2) | (show (Addr.add _ _).block ≠ _; rw [add_block]; exact hn110_2) | exact hn110_2) (.bool true)).trans hx110_0; replace hx110_1 := (cell_far (p := ⟨gb108, 2, none⟩) (by first | (rw [add_block]; exact hn110_2) | (show (Addr.add _ _).block ≠ _; rw [add_block]; exact hn110_2) | exact hn110_2) (.bool true)).trans hx110_1; replace hx110_2 := (cell_far (p := ⟨gb108, 2, none⟩) (by first | (rw [add_block]; exact hn110_2) | (show (Addr.add _ _).block ≠ _; rw [add_block]; exact hn110_2) | exact hn110_2) (.bool true)).trans hx110_2; (try have hy110_0 := fun (n_ : Nat) => (show (((((w25.drewN n_).setCell ⟨gb108, 0, none⟩ (.string ((rd_T109 l0_1 x8_1).f0))).setCell ⟨gb108, 1, none⟩ (.string ((rd_T109 l0_1 x8_1).f1))).setCell ⟨gb108, 2, none⟩ (.bool true))).cell? _ = some _ from hx110_0)); (try have hy110_1 := fun (n_ : Nat) => (show (((((w25.drewN n_).setCell ⟨gb108, 0, none⟩ (.string ((rd_T109 l0_1 x8_1).f0))).setCell ⟨gb108, 1, none⟩ (.string ((rd_T109 l0_1 x8_1).f1))).setCell ⟨gb108, 2, none⟩ (.bool true))).cell? _ = some _ from hx110_1)); (try have hy110_2 := fun (n_ : Nat) => (show (((((w25.drewN n_).setCell ⟨gb108, 0, none⟩ (.string ((rd_T109 l0_1 x8_1).f0))).setCell ⟨gb108, 1, none⟩ (.string ((rd_T109 l0_1 x8_1).f1))).setCell ⟨gb108, 2, none⟩ (.bool true))).cell? _ = some _ from hx110_2)); clear hn110_0; clear hn110_1; clear hn110_2; replace p110 := eq_true p110; replace q110 := eq_true q110)))
                            go_ret
                            exact ⟨by first | rfl | (simp [errW_none, errW_some] <;> rfl) | (simp only [← hji17]; first | rfl | (simp [errW_none, errW_some] <;> rfl)) | (simp [*, errW_none, errW_some] <;> rfl), t16_⟩
                        · rw [if_neg c19] at H
                          exact absurd H (by simp)
                      · rw [if_neg c18] at H
                        exact absurd H (by simp)
                    · rw [if_neg c16] at H
                      have c16b0 : decide (0 < x8_1) = false := decide_eq_false c16
                      clear c16
                      have H' := Aside0.mk H
                      clear H
                      have p107 : 0 ≤ (x8_1 : Int) := of_decide_eq_true t4_
                      have q107 : x8_1 < (l0_1.length : Int) := of_decide_eq_true t4_
                      obtain ⟨ad107, e107, hx107_0, hx107_1, hx107_2⟩ := at_T109 HR0_1.out x8_1 p107 q107
                      (try rw [← Nbq13.out] at hx107_2)
                      (try rw [← Nbq13.out] at hw107_2)
                      cases e107
                      replace hx107_0 := (HB.out.cell (World.block_lt_of_cell? w _ hx107_0)).trans hx107_0
                      replace hx107_1 := (HB.out.cell (World.block_lt_of_cell? w _ hx107_1)).trans hx107_1
                      replace hx107_2 := (HB.out.cell (World.block_lt_of_cell? w _ hx107_2)).trans hx107_2
                      replace p107 := eq_true p107
                      replace q107 := eq_true q107
                      go_wp2_with (first | ((with_reducible refine gate_dst (N := 4) rfl ?_); (try (refine gate_guard (by rfl) ?_; dsimp only)); refine boxE (N := 4) (cs := #[.string (⟨#[]⟩ : ByteArray), .string (⟨#[]⟩ : ByteArray), .bool false]) (t := 109) (h := ?_); intro gb108 hg w29 hbox hb; have BK108 := Aside0.mk (hbox); have GW108 := Aside0.mk ((t6_ : w.heap.size ≤ gb108)); have GE108 := Aside0.mk ((t6_ : w.heap.size ≤ gb108)); replace HB := Aside0.mk (below_step t2_ hb); have NB106_108 := nbL BK106 hg; have NB108_106 := nbG BK106 hg; replace BK106 := bkN BK106 hb; clear hb hbox hg; have hnb30 := NB108_106.out; have hnc30 := NB106_108.out; have hcz31_0 := bc0 BK108; have hcz31_1 := bc1 BK108; have hcz31_2 := bc2 BK108; have hfz31_0 := bf BK108 0; have hfz31_1 := bf BK108 1; have hfz31_2 := bf BK108 2) | (go_at_call 105; (with_reducible refine (impl_keyOk.calls ((rd_T109 l0_1 x8_1).f0) true _ A7.out).mono ?_); rintro e w' ⟨rfl, ⟨nd, rfl⟩⟩; (try first | exact ⟨rfl, _, World.drewN_drewN _ _ _⟩ | exact ⟨rfl, _, Eq.trans (World.drewN_drewN _ _ _) (congrArg (World.drewN _) (Nat.add_assoc _ _ _))⟩)))
                      repeat (go_quiet (first | ((with_reducible refine gate_dst (N := 4) rfl ?_); (try (refine gate_guard (by rfl) ?_; dsimp only)); refine boxE (N := 4) (cs := #[.string (⟨#[]⟩ : ByteArray), .string (⟨#[]⟩ : ByteArray), .bool false]) (t := 109) (h := ?_); intro gb108 hg w29 hbox hb; have BK108 := Aside0.mk (hbox); have GW108 := Aside0.mk ((t6_ : w.heap.size ≤ gb108)); have GE108 := Aside0.mk ((t6_ : w.heap.size ≤ gb108)); replace HB := Aside0.mk (below_step t2_ hb); have NB106_108 := nbL BK106 hg; have NB108_106 := nbG BK106 hg; replace BK106 := bkN BK106 hb; clear hb hbox hg; have hnb30 := NB108_106.out; have hnc30 := NB106_108.out; have hcz31_0 := bc0 BK108; have hcz31_1 := bc1 BK108; have hcz31_2 := bc2 BK108; have hfz31_0 := bf BK108 0; have hfz31_1 := bf BK108 1; have hfz31_2 := bf BK108 2) | (go_at_call 105; (with_reducible refine (impl_keyOk.calls ((rd_T109 l0_1 x8_1).f0) true _ A7.out).mono ?_); rintro e w' ⟨rfl, ⟨nd, rfl⟩⟩; (try first | exact ⟨rfl, _, World.drewN_drewN _ _ _⟩ | exact ⟨rfl, _, Eq.trans (World.drewN_drewN _ _ _) (congrArg (World.drewN _) (Nat.add_assoc _ _ _))⟩))); try go_wp2_with (first | ((with_reducible refine gate_dst (N := 4) rfl ?_); (try (refine gate_guard (by rfl) ?_; dsimp only)); refine boxE (N := 4) (cs := #[.string (⟨#[]⟩ : ByteArray), .string (⟨#[]⟩ : ByteArray), .bool false]) (t := 109) (h := ?_); intro gb108 hg w29 hbox hb; have BK108 := Aside0.mk (hbox); have GW108 := Aside0.mk ((t6_ : w.heap.size ≤ gb108)); have GE108 := Aside0.mk ((t6_ : w.heap.size ≤ gb108)); replace HB := Aside0.mk (below_step t2_ hb); have NB106_108 := nbL BK106 hg; have NB108_106 := nbG BK106 hg; replace BK106 := bkN BK106 hb; clear hb hbox hg; have hnb30 := NB108_106.out; have hnc30 := NB106_108.out; have hcz31_0 := bc0 BK108; have hcz31_1 := bc1 BK108; have hcz31_2 := bc2 BK108; have hfz31_0 := bf BK108 0; have hfz31_1 := bf BK108 1; have hfz31_2 := bf BK108 2) | (go_at_call 105; (with_reducible refine (impl_keyOk.calls ((rd_T109 l0_1 x8_1).f0) true _ A7.out).mono ?_); rintro e w' ⟨rfl, ⟨nd, rfl⟩⟩; (try first | exact ⟨rfl, _, World.drewN_drewN _ _ _⟩ | exact ⟨rfl, _, Eq.trans (World.drewN_drewN _ _ _) (congrArg (World.drewN _) (Nat.add_assoc _ _ _))⟩))))
                      go_roundg k1
                      case measure => have := HK1.out; omega
                      case rel => exact ⟨(wrap64 (x8_1 + 1)), t10_, H', ⟨by have := HK1.out; omega⟩, ⟨by (with_reducible repeat (first | refine blk_drewN ?_ _ | refine blk_drew ?_ | refine blk_alloc ?_ _)); refine blk_far ?_ NB106_108.out _; (with_reducible repeat (first | refine blk_drewN ?_ _ | refine blk_drew ?_ | refine blk_alloc ?_ _)); refine blk_far ?_ NB106_108.out _; (with_reducible repeat (first | refine blk_drewN ?_ _ | refine blk_drew ?_ | refine blk_alloc ?_ _)); refine blk_far ?_ NB106_108.out _; (with_reducible repeat (first | refine blk_drewN ?_ _ | refine blk_drew ?_ | refine blk_alloc ?_ _)); exact BK106.out⟩, ⟨t16_⟩⟩
                  · rw [if_neg c15] at H
                    have c15b0 : (((rd_T109 l0_1 x8_1).f1).toList == ([] : List UInt8)) = false := beq_eq_false_iff_ne.mpr c15
                    have c15b1 : (((rd_T109 l0_1 x8_1).f1).toList != ([] : List UInt8)) = true := bne_iff_ne.mpr c15
                    obtain rfl := Option.some.inj H
                    have p107 : 0 ≤ (x8_1 : Int) := of_decide_eq_true t4_
                    have q107 : x8_1 < (l0_1.length : Int) := of_decide_eq_true t4_
                    obtain ⟨ad107, e107, hx107_0, hx107_1, hx107_2⟩ := at_T109 HR0_1.out x8_1 p107 q107
                    (try rw [← Nbq13.out] at hx107_2)
                    (try rw [← Nbq13.out] at hw107_2)
                    cases e107
                    replace hx107_0 := (HB.out.cell (World.block_lt_of_cell? w _ hx107_0)).trans hx107_0
                    replace hx107_1 := (HB.out.cell (World.block_lt_of_cell? w _ hx107_1)).trans hx107_1
                    replace hx107_2 := (HB.out.cell (World.block_lt_of_cell? w _ hx107_2)).trans hx107_2
                    replace p107 := eq_true p107
                    replace q107 := eq_true q107
                    go_wp2_with (first | ((with_reducible refine gate_dst (N := 4) rfl ?_); (try (refine gate_guard (by rfl) ?_; dsimp only)); refine boxE (N := 4) (cs := #[.string (⟨#[]⟩ : ByteArray), .string (⟨#[]⟩ : ByteArray), .bool false]) (t := 109) (h := ?_); intro gb108 hg w32 hbox hb; have BK108 := Aside0.mk (hbox); have GW108 := Aside0.mk ((t6_ : w.heap.size ≤ gb108)); have GE108 := Aside0.mk ((t6_ : w.heap.size ≤ gb108)); replace HB := Aside0.mk (below_step t2_ hb); have NB106_108 := nbL BK106 hg; have NB108_106 := nbG BK106 hg; replace BK106 := bkN BK106 hb; clear hb hbox hg; have hnb33 := NB108_106.out; have hnc33 := NB106_108.out; have hcz34_0 := bc0 BK108; have hcz34_1 := bc1 BK108; have hcz34_2 := bc2 BK108; have hfz34_0 := bf BK108 0; have hfz34_1 := bf BK108 1; have hfz34_2 := bf BK108 2) | (go_at_call 105; (with_reducible refine (impl_keyOk.calls ((rd_T109 l0_1 x8_1).f0) true _ A7.out).mono ?_); rintro e w' ⟨rfl, ⟨nd, rfl⟩⟩; (try first | exact ⟨rfl, _, World.drewN_drewN _ _ _⟩ | exact ⟨rfl, _, Eq.trans (World.drewN_drewN _ _ _) (congrArg (World.drewN _) (Nat.add_assoc _ _ _))⟩)))
                    repeat (go_quiet (first | ((with_reducible refine gate_dst (N := 4) rfl ?_); (try (refine gate_guard (by rfl) ?_; dsimp only)); refine boxE (N := 4) (cs := #[.string (⟨#[]⟩ : ByteArray), .string (⟨#[]⟩ : ByteArray), .bool false]) (t := 109) (h := ?_); intro gb108 hg w32 hbox hb; have BK108 := Aside0.mk (hbox); have GW108 := Aside0.mk ((t6_ : w.heap.size ≤ gb108)); have GE108 := Aside0.mk ((t6_ : w.heap.size ≤ gb108)); replace HB := Aside0.mk (below_step t2_ hb); have NB106_108 := nbL BK106 hg; have NB108_106 := nbG BK106 hg; replace BK106 := bkN BK106 hb; clear hb hbox hg; have hnb33 := NB108_106.out; have hnc33 := NB106_108.out; have hcz34_0 := bc0 BK108; have hcz34_1 := bc1 BK108; have hcz34_2 := bc2 BK108; have hfz34_0 := bf BK108 0; have hfz34_1 := bf BK108 1; have hfz34_2 := bf BK108 2) | (go_at_call 105; (with_reducible refine (impl_keyOk.calls ((rd_T109 l0_1 x8_1).f0) true _ A7.out).mono ?_); rintro e w' ⟨rfl, ⟨nd, rfl⟩⟩; (try first | exact ⟨rfl, _, World.drewN_drewN _ _ _⟩ | exact ⟨rfl, _, Eq.trans (World.drewN_drewN _ _ _) (congrArg (World.drewN _) (Nat.add_assoc _ _ _))⟩))); try go_wp2_with (first | ((with_reducible refine gate_dst (N := 4) rfl ?_); (try (refine gate_guard (by rfl) ?_; dsimp only)); refine boxE (N := 4) (cs := #[.string (⟨#[]⟩ : ByteArray), .string (⟨#[]⟩ : ByteArray), .bool false]) (t := 109) (h := ?_); intro gb108 hg w32 hbox hb; have BK108 := Aside0.mk (hbox); have GW108 := Aside0.mk ((t6_ : w.heap.size ≤ gb108)); have GE108 := Aside0.mk ((t6_ : w.heap.size ≤ gb108)); replace HB := Aside0.mk (below_step t2_ hb); have NB106_108 := nbL BK106 hg; have NB108_106 := nbG BK106 hg; replace BK106 := bkN BK106 hb; clear hb hbox hg; have hnb33 := NB108_106.out; have hnc33 := NB106_108.out; have hcz34_0 := bc0 BK108; have hcz34_1 := bc1 BK108; have hcz34_2 := bc2 BK108; have hfz34_0 := bf BK108 0; have hfz34_1 := bf BK108 1; have hfz34_2 := bf BK108 2) | (go_at_call 105; (with_reducible refine (impl_keyOk.calls ((rd_T109 l0_1 x8_1).f0) true _ A7.out).mono ?_); rintro e w' ⟨rfl, ⟨nd, rfl⟩⟩; (try first | exact ⟨rfl, _, World.drewN_drewN _ _ _⟩ | exact ⟨rfl, _, Eq.trans (World.drewN_drewN _ _ _) (congrArg (World.drewN _) (Nat.add_assoc _ _ _))⟩))))
                    go_ret
                    exact ⟨by first | rfl | (simp [errW_none, errW_some] <;> rfl) | (simp [*, errW_none, errW_some] <;> rfl), t16_⟩
                · replace c14 := Bool.eq_false_iff.mpr c14
                  subst c14
                  have H1 : (if x8_1 > 0 then (if 0 ≤ (wrap64 (x8_1 - 1)) then (if (wrap64 (x8_1 - 1)) < (l0_1.length : Int) then (if ((Op.bytesLess (((rd_T109 l0_1 (wrap64 (x8_1 - 1))).f0).toList) (((rd_T109 l0_1 x8_1).f0).toList)) = true) then (impl_BatchOk.l0 k1 l0_1 (l0_1.length : Int) (wrap64 (x8_1 + 1)) a0_0 l0_1) else (some false)) else (none)) else (none)) else (impl_BatchOk.l0 k1 l0_1 (l0_1.length : Int) (wrap64 (x8_1 + 1)) a0_0 l0_1)) = some r := by rw [if_neg (show ¬ (false = true) by decide)] at H; exact H
                  clear H
                  have H := H1
                  clear H1
                  by_cases c35 : x8_1 > 0
                  · rw [if_pos c35] at H
                    have c35b0 : decide (0 < x8_1) = true := decide_eq_true c35
                    clear c35
                    obtain ⟨ji36, hji36⟩ : ∃ j_ : Int, (wrap64 (x8_1 - 1)) = j_ := ⟨_, rfl⟩
                    replace H : (if 0 ≤ (ji36) then (if (ji36) < (l0_1.length : Int) then (if ((Op.bytesLess (((rd_T109 l0_1 (ji36)).f0).toList) (((rd_T109 l0_1 x8_1).f0).toList)) = true) then (impl_BatchOk.l0 k1 l0_1 (l0_1.length : Int) (wrap64 (x8_1 + 1)) a0_0 l0_1) else (some false)) else (none)) else (none)) = some r := by first | (rw [hji36] at H; exact H) | (simp only [hji36] at H ⊢; exact H)
                    (try rw [hji36] at A7)
                    have hji36w : (IntKind.i64.wrap (x8_1 - 1)) = ji36 := (i64_w _).trans hji36
                    by_cases c37 : 0 ≤ (ji36)
                    · rw [if_pos c37] at H
                      have c37b0 : decide (0 ≤ (ji36)) = true := decide_eq_true c37
                      clear c37
                      by_cases c38 : (ji36) < (l0_1.length : Int)
                      · rw [if_pos c38] at H
                        have c38b0 : decide ((ji36) < (l0_1.length : Int)) = true := decide_eq_true c38
                        clear c38
                        by_cases c39 : ((Op.bytesLess (((rd_T109 l0_1 (ji36)).f0).toList) (((rd_T109 l0_1 x8_1).f0).toList)) = true)
                        · rw [if_pos c39] at H
                          have c39b0 : (Op.bytesLess (((rd_T109 l0_1 (ji36)).f0).toList) (((rd_T109 l0_1 x8_1).f0).toList)) = true := c39
                          obtain ⟨c39b7, c39b6⟩ := bl_gtr_t c39b0
                          clear c39
                          have H' := Aside0.mk H
                          clear H
                          have p107 : 0 ≤ (x8_1 : Int) := of_decide_eq_true t4_
                          have q107 : x8_1 < (l0_1.length : Int) := of_decide_eq_true t4_
                          obtain ⟨ad107, e107, hx107_0, hx107_1, hx107_2⟩ := at_T109 HR0_1.out x8_1 p107 q107
                          (try rw [← Nbq13.out] at hx107_2)
                          (try rw [← Nbq13.out] at hw107_2)
                          cases e107
                          replace hx107_0 := (HB.out.cell (World.block_lt_of_cell? w _ hx107_0)).trans hx107_0
                          replace hx107_1 := (HB.out.cell (World.block_lt_of_cell? w _ hx107_1)).trans hx107_1
                          replace hx107_2 := (HB.out.cell (World.block_lt_of_cell? w _ hx107_2)).trans hx107_2
                          replace p107 := eq_true p107
                          replace q107 := eq_true q107
                          go_wp2_with (first | ((with_reducible refine gate_dst (N := 4) rfl ?_); (try (refine gate_guard (by rfl) ?_; dsimp only)); refine boxE (N := 4) (cs := #[.string (⟨#[]⟩ : ByteArray), .string (⟨#[]⟩ : ByteArray), .bool false]) (t := 109) (h := ?_); intro gb108 hg w40 hbox hb; have BK108 := Aside0.mk (hbox); have GW108 := Aside0.mk ((t6_ : w.heap.size ≤ gb108)); have GE108 := Aside0.mk ((t6_ : w.heap.size ≤ gb108)); replace HB := Aside0.mk (below_step t2_ hb); have NB106_108 := nbL BK106 hg; have NB108_106 := nbG BK106 hg; replace BK106 := bkN BK106 hb; clear hb hbox hg; have hnb41 := NB108_106.out; have hnc41 := NB106_108.out; have hcz42_0 := bc0 BK108; have hcz42_1 := bc1 BK108; have hcz42_2 := bc2 BK108; have hfz42_0 := bf BK108 0; have hfz42_1 := bf BK108 1; have hfz42_2 := bf BK108 2) | (go_at_call 105; (with_reducible refine (impl_keyOk.calls ((rd_T109 l0_1 x8_1).f0) true _ A7.out).mono ?_); rintro e w' ⟨rfl, ⟨nd, rfl⟩⟩; (try first | exact ⟨rfl, _, World.drewN_drewN _ _ _⟩ | exact ⟨rfl, _, Eq.trans (World.drewN_drewN _ _ _) (congrArg (World.drewN _) (Nat.add_assoc _ _ _))⟩); have hcz43_0 := bc0 BK106; have hcz43_1 := bc1 BK106; have hfz43_0 := bf BK106 0; have hfz43_1 := bf BK106 1; have p111 : 0 ≤ ((ji36) : Int) := of_decide_eq_true t4_; have q111 : (ji36) < (l0_1.length : Int) := of_decide_eq_true t4_; obtain ⟨ad111, e111, hx111_0, hx111_1, hx111_2⟩ := at_T109 HR0_1.out (ji36) p111 q111; (try rw [← Nbq13.out] at hx111_2); obtain rfl : ad107 = ad111 := (by injection e111); have hn111_0 : ad107.block ≠ gb108 := Nat.ne_of_lt (Nat.lt_of_lt_of_le (by have := World.block_lt_of_cell? _ _ hx111_0; first | rwa [add_block] at this | exact this) GW108.out); have hn111_1 : ad107.block ≠ gb108 := Nat.ne_of_lt (Nat.lt_of_lt_of_le (by have := World.block_lt_of_cell? _ _ hx111_0; first | rwa [add_block] at this | exact this) GW108.out); have hn111_2 : ad107.block ≠ gb108 := Nat.ne_of_lt (Nat.lt_of_lt_of_le (by have := World.block_lt_of_cell? _ _ hx111_0; first | rwa [add_block] at this | exact this) GW108.out); replace hx111_0 := (HB.out.cell (World.block_lt_of_cell? w _ hx111_0)).trans hx111_0; replace hx111_1 := (HB.out.cell (World.block_lt_of_cell? w _ hx111_1)).trans hx111_1; replace hx111_2 := (HB.out.cell (World.block_lt_of_cell? w _ hx111_2)).trans hx111_2; replace hx111_0 := (cell_far (p := ⟨gb108, 0, none⟩) (by first | (rw [add_block]; exact hn111_0) | (show (Addr.add _ _).block ≠ _; rw [add_block]; exact hn111_0) | exact hn111_0) (.string ((rd_T109 l0_1 x8_1).f0))).trans hx111_0; replace hx111_1 := (cell_far (p := ⟨gb108, 0, none⟩) (by first | (rw [add_block]; exact hn111_0) | (show (Addr.add _ _).block ≠ _; rw [add_block]; exact hn111_0) | exact hn111_0) (.string ((rd_T109 l0_1 x8_1).f0))).trans hx111_1; replace hx111_2 := (cell_far (p := ⟨gb108, 0, none⟩) (by first | (rw [add_block]; exact hn111_0) | (show (Addr.add _ _).block ≠ _; rw [add_block]; exact hn111_0) | exact hn111_0) (.string ((rd_T109 l0_1 x8_1).f0))).trans hx111_2; replace hx111_0 := (cell_far (p := ⟨gb108, 1, none⟩) (by first | (rw [add_block]; exact hn111_1) | (show (Addr.add _ _).block ≠ _; rw [add_block]; exact hn111_1) | exact hn111_1) (.string ((rd_T109 l0_1 x8_1).f1))).trans hx111_0; replace hx111_1 := (cell_far (p := ⟨gb108, 1, none⟩) (by first | (rw [add_block]; exact hn111_1) | (show (Addr.add _ _).block ≠ _; rw [add_block]; exact hn111_1) | exact hn111_1) (.string ((rd_T109 l0_1 x8_1).f1))).trans hx111_1; replace hx111_2 := (cell_far (p := ⟨gb108, 1, none⟩) (by first | (rw [add_block]; exact hn111_1) | (show (Addr.add _ _).block ≠ _; rw [add_block]; exact hn111_1) | exact hn111_1) (.string ((rd_T109 l0_1 x8_1).f1))).trans hx111_2; replace hx111_0 := (cell_far (p := ⟨gb108, 2, none⟩) (by first | (rw [add_block]; exact hn111_2) | (show (Addr.add _ _).block ≠ _; rw [add_block]; exact hn111_2) | exact hn111_2) (.bool false)).trans hx111_0; replace hx111_1 := (cell_far (p := ⟨gb108, 2, none⟩) (by first | (rw [add_block]; exact hn111_2) | (show (Addr.add _ _).block ≠ _; rw [add_block]; exact hn111_2) | exact hn111_2) (.bool false)).trans hx111_1; replace hx111_2 := (cell_far (p := ⟨gb108, 2, none⟩) (by first | (rw [add_block]; exact hn111_2) | (show (Addr.add _ _).block ≠ _; rw [add_block]; exact hn111_2) | exact hn111_2) (.bool false)).trans hx111_2; (try have hy111_0 := fun (n_ : Nat) => (show (((((w40.drewN n_).setCell ⟨gb108, 0, none⟩ (.string ((rd_T109 l0_1 x8_1).f0))).setCell ⟨gb108, 1, none⟩ (.string ((rd_T109 l0_1 x8_1).f1))).setCell ⟨gb108, 2, none⟩ (.bool false))).cell? _ = some _ from hx111_0)); (try have hy111_1 := fun (n_ : Nat) => (show (((((w40.drewN n_).setCell ⟨gb108, 0, none⟩ (.string ((rd_T109 l0_1 x8_1).f0))).setCell ⟨gb108, 1, none⟩ (.string ((rd_T109 l0_1 x8_1).f1))).setCell ⟨gb108, 2, none⟩ (.bool false))).cell? _ = some _ from hx111_1)); (try have hy111_2 := fun (n_ : Nat) => (show (((((w40.drewN n_).setCell ⟨gb108, 0, none⟩ (.string ((rd_T109 l0_1 x8_1).f0))).setCell ⟨gb108, 1, none⟩ (.string ((rd_T109 l0_1 x8_1).f1))).setCell ⟨gb108, 2, none⟩ (.bool false))).cell? _ = some _ from hx111_2)); clear hn111_0; clear hn111_1; clear hn111_2; replace p111 := eq_true p111; replace q111 := eq_true q111))
                          repeat (go_quiet (first | ((with_reducible refine gate_dst (N := 4) rfl ?_); (try (refine gate_guard (by rfl) ?_; dsimp only)); refine boxE (N := 4) (cs := #[.string (⟨#[]⟩ : ByteArray), .string (⟨#[]⟩ : ByteArray), .bool false]) (t := 109) (h := ?_); intro gb108 hg w40 hbox hb; have BK108 := Aside0.mk (hbox); have GW108 := Aside0.mk ((t6_ : w.heap.size ≤ gb108)); have GE108 := Aside0.mk ((t6_ : w.heap.size ≤ gb108)); replace HB := Aside0.mk (below_step t2_ hb); have NB106_108 := nbL BK106 hg; have NB108_106 := nbG BK106 hg; replace BK106 := bkN BK106 hb; clear hb hbox hg; have hnb41 := NB108_106.out; have hnc41 := NB106_108.out; have hcz42_0 := bc0 BK108; have hcz42_1 := bc1 BK108; have hcz42_2 := bc2 BK108; have hfz42_0 := bf BK108 0; have hfz42_1 := bf BK108 1; have hfz42_2 := bf BK108 2) | (go_at_call 105; (with_reducible refine (impl_keyOk.calls ((rd_T109 l0_1 x8_1).f0) true _ A7.out).mono ?_); rintro e w' ⟨rfl, ⟨nd, rfl⟩⟩; (try first | exact ⟨rfl, _, World.drewN_drewN _ _ _⟩ | exact ⟨rfl, _, Eq.trans (World.drewN_drewN _ _ _) (congrArg (World.drewN _) (Nat.add_assoc _ _ _))⟩); have hcz43_0 := bc0 BK106; have hcz43_1 := bc1 BK106; have hfz43_0 := bf BK106 0; have hfz43_1 := bf BK106 1; have p111 : 0 ≤ ((ji36) : Int) := of_decide_eq_true t4_; have q111 : (ji36) < (l0_1.length : Int) := of_decide_eq_true t4_; obtain ⟨ad111, e111, hx111_0, hx111_1, hx111_2⟩ := at_T109 HR0_1.out (ji36) p111 q111; (try rw [← Nbq13.out] at hx111_2); obtain rfl : ad107 = ad111 := (by injection e111); have hn111_0 : ad107.block ≠ gb108 := Nat.ne_of_lt (Nat.lt_of_lt_of_le (by have := World.block_lt_of_cell? _ _ hx111_0; first | rwa [add_block] at this | exact this) GW108.out); have hn111_1 : ad107.block ≠ gb108 := Nat.ne_of_lt (Nat.lt_of_lt_of_le (by have := World.block_lt_of_cell? _ _ hx111_0; first | rwa [add_block] at this | exact this) GW108.out); have hn111_2 : ad107.block ≠ gb108 := Nat.ne_of_lt (Nat.lt_of_lt_of_le (by have := World.block_lt_of_cell? _ _ hx111_0; first | rwa [add_block] at this | exact this) GW108.out); replace hx111_0 := (HB.out.cell (World.block_lt_of_cell? w _ hx111_0)).trans hx111_0; replace hx111_1 := (HB.out.cell (World.block_lt_of_cell? w _ hx111_1)).trans hx111_1; replace hx111_2 := (HB.out.cell (World.block_lt_of_cell? w _ hx111_2)).trans hx111_2; replace hx111_0 := (cell_far (p := ⟨gb108, 0, none⟩) (by first | (rw [add_block]; exact hn111_0) | (show (Addr.add _ _).block ≠ _; rw [add_block]; exact hn111_0) | exact hn111_0) (.string ((rd_T109 l0_1 x8_1).f0))).trans hx111_0; replace hx111_1 := (cell_far (p := ⟨gb108, 0, none⟩) (by first | (rw [add_block]; exact hn111_0) | (show (Addr.add _ _).block ≠ _; rw [add_block]; exact hn111_0) | exact hn111_0) (.string ((rd_T109 l0_1 x8_1).f0))).trans hx111_1; replace hx111_2 := (cell_far (p := ⟨gb108, 0, none⟩) (by first | (rw [add_block]; exact hn111_0) | (show (Addr.add _ _).block ≠ _; rw [add_block]; exact hn111_0) | exact hn111_0) (.string ((rd_T109 l0_1 x8_1).f0))).trans hx111_2; replace hx111_0 := (cell_far (p := ⟨gb108, 1, none⟩) (by first | (rw [add_block]; exact hn111_1) | (show (Addr.add _ _).block ≠ _; rw [add_block]; exact hn111_1) | exact hn111_1) (.string ((rd_T109 l0_1 x8_1).f1))).trans hx111_0; replace hx111_1 := (cell_far (p := ⟨gb108, 1, none⟩) (by first | (rw [add_block]; exact hn111_1) | (show (Addr.add _ _).block ≠ _; rw [add_block]; exact hn111_1) | exact hn111_1) (.string ((rd_T109 l0_1 x8_1).f1))).trans hx111_1; replace hx111_2 := (cell_far (p := ⟨gb108, 1, none⟩) (by first | (rw [add_block]; exact hn111_1) | (show (Addr.add _ _).block ≠ _; rw [add_block]; exact hn111_1) | exact hn111_1) (.string ((rd_T109 l0_1 x8_1).f1))).trans hx111_2; replace hx111_0 := (cell_far (p := ⟨gb108, 2, none⟩) (by first | (rw [add_block]; exact hn111_2) | (show (Addr.add _ _).block ≠ _; rw [add_block]; exact hn111_2) | exact hn111_2) (.bool false)).trans hx111_0; replace hx111_1 := (cell_far (p := ⟨gb108, 2, none⟩) (by first | (rw [add_block]; exact hn111_2) | (show (Addr.add _ _).block ≠ _; rw [add_block]; exact hn111_2) | exact hn111_2) (.bool false)).trans hx111_1; replace hx111_2 := (cell_far (p := ⟨gb108, 2, none⟩) (by first | (rw [add_block]; exact hn111_2) | (show (Addr.add _ _).block ≠ _; rw [add_block]; exact hn111_2) | exact hn111_2) (.bool false)).trans hx111_2; (try have hy111_0 := fun (n_ : Nat) => (show (((((w40.drewN n_).setCell ⟨gb108, 0, none⟩ (.string ((rd_T109 l0_1 x8_1).f0))).setCell ⟨gb108, 1, none⟩ (.string ((rd_T109 l0_1 x8_1).f1))).setCell ⟨gb108, 2, none⟩ (.bool false))).cell? _ = some _ from hx111_0)); (try have hy111_1 := fun (n_ : Nat) => (show (((((w40.drewN n_).setCell ⟨gb108, 0, none⟩ (.string ((rd_T109 l0_1 x8_1).f0))).setCell ⟨gb108, 1, none⟩ (.string ((rd_T109 l0_1 x8_1).f1))).setCell ⟨gb108, 2, none⟩ (.bool false))).cell? _ = some _ from hx111_1)); (try have hy111_2 := fun (n_ : Nat) => (show (((((w40.drewN n_).setCell ⟨gb108, 0, none⟩ (.string ((rd_T109 l0_1 x8_1).f0))).setCell ⟨gb108, 1, none⟩ (.string ((rd_T109 l0_1 x8_1).f1))).setCell ⟨gb108, 2, none⟩ (.bool false))).cell? _ = some _ from hx111_2)); clear hn111_0; clear hn111_1; clear hn111_2; replace p111 := eq_true p111; replace q111 := eq_true q111)); try go_wp2_with (first | ((with_reducible refine gate_dst (N := 4) rfl ?_); (try (refine gate_guard (by rfl) ?_; dsimp only)); refine boxE (N := 4) (cs := #[.string (⟨#[]⟩ : ByteArray), .string (⟨#[]⟩ : ByteArray), .bool false]) (t := 109) (h := ?_); intro gb108 hg w40 hbox hb; have BK108 := Aside0.mk (hbox); have GW108 := Aside0.mk ((t6_ : w.heap.size ≤ gb108)); have GE108 := Aside0.mk ((t6_ : w.heap.size ≤ gb108)); replace HB := Aside0.mk (below_step t2_ hb); have NB106_108 := nbL BK106 hg; have NB108_106 := nbG BK106 hg; replace BK106 := bkN BK106 hb; clear hb hbox hg; have hnb41 := NB108_106.out; have hnc41 := NB106_108.out; have hcz42_0 := bc0 BK108; have hcz42_1 := bc1 BK108; have hcz42_2 := bc2 BK108; have hfz42_0 := bf BK108 0; have hfz42_1 := bf BK108 1; have hfz42_2 := bf BK108 2) | (go_at_call 105; (with_reducible refine (impl_keyOk.calls ((rd_T109 l0_1 x8_1).f0) true _ A7.out).mono ?_); rintro e w' ⟨rfl, ⟨nd, rfl⟩⟩; (try first | exact ⟨rfl, _, World.drewN_drewN _ _ _⟩ | exact ⟨rfl, _, Eq.trans (World.drewN_drewN _ _ _) (congrArg (World.drewN _) (Nat.add_assoc _ _ _))⟩); have hcz43_0 := bc0 BK106; have hcz43_1 := bc1 BK106; have hfz43_0 := bf BK106 0; have hfz43_1 := bf BK106 1; have p111 : 0 ≤ ((ji36) : Int) := of_decide_eq_true t4_; have q111 : (ji36) < (l0_1.length : Int) := of_decide_eq_true t4_; obtain ⟨ad111, e111, hx111_0, hx111_1, hx111_2⟩ := at_T109 HR0_1.out (ji36) p111 q111; (try rw [← Nbq13.out] at hx111_2); obtain rfl : ad107 = ad111 := (by injection e111); have hn111_0 : ad107.block ≠ gb108 := Nat.ne_of_lt (Nat.lt_of_lt_of_le (by have := World.block_lt_of_cell? _ _ hx111_0; first | rwa [add_block] at this | exact this) GW108.out); have hn111_1 : ad107.block ≠ gb108 := Nat.ne_of_lt (Nat.lt_of_lt_of_le (by have := World.block_lt_of_cell? _ _ hx111_0; first | rwa [add_block] at this | exact this) GW108.out); have hn111_2 : ad107.block ≠ gb108 := Nat.ne_of_lt (Nat.lt_of_lt_of_le (by have := World.block_lt_of_cell? _ _ hx111_0; first | rwa [add_block] at this | exact this) GW108.out); replace hx111_0 := (HB.out.cell (World.block_lt_of_cell? w _ hx111_0)).trans hx111_0; replace hx111_1 := (HB.out.cell (World.block_lt_of_cell? w _ hx111_1)).trans hx111_1; replace hx111_2 := (HB.out.cell (World.block_lt_of_cell? w _ hx111_2)).trans hx111_2; replace hx111_0 := (cell_far (p := ⟨gb108, 0, none⟩) (by first | (rw [add_block]; exact hn111_0) | (show (Addr.add _ _).block ≠ _; rw [add_block]; exact hn111_0) | exact hn111_0) (.string ((rd_T109 l0_1 x8_1).f0))).trans hx111_0; replace hx111_1 := (cell_far (p := ⟨gb108, 0, none⟩) (by first | (rw [add_block]; exact hn111_0) | (show (Addr.add _ _).block ≠ _; rw [add_block]; exact hn111_0) | exact hn111_0) (.string ((rd_T109 l0_1 x8_1).f0))).trans hx111_1; replace hx111_2 := (cell_far (p := ⟨gb108, 0, none⟩) (by first | (rw [add_block]; exact hn111_0) | (show (Addr.add _ _).block ≠ _; rw [add_block]; exact hn111_0) | exact hn111_0) (.string ((rd_T109 l0_1 x8_1).f0))).trans hx111_2; replace hx111_0 := (cell_far (p := ⟨gb108, 1, none⟩) (by first | (rw [add_block]; exact hn111_1) | (show (Addr.add _ _).block ≠ _; rw [add_block]; exact hn111_1) | exact hn111_1) (.string ((rd_T109 l0_1 x8_1).f1))).trans hx111_0; replace hx111_1 := (cell_far (p := ⟨gb108, 1, none⟩) (by first | (rw [add_block]; exact hn111_1) | (show (Addr.add _ _).block ≠ _; rw [add_block]; exact hn111_1) | exact hn111_1) (.string ((rd_T109 l0_1 x8_1).f1))).trans hx111_1; replace hx111_2 := (cell_far (p := ⟨gb108, 1, none⟩) (by first | (rw [add_block]; exact hn111_1) | (show (Addr.add _ _).block ≠ _; rw [add_block]; exact hn111_1) | exact hn111_1) (.string ((rd_T109 l0_1 x8_1).f1))).trans hx111_2; replace hx111_0 := (cell_far (p := ⟨gb108, 2, none⟩) (by first | (rw [add_block]; exact hn111_2) | (show (Addr.add _ _).block ≠ _; rw [add_block]; exact hn111_2) | exact hn111_2) (.bool false)).trans hx111_0; replace hx111_1 := (cell_far (p := ⟨gb108, 2, none⟩) (by first | (rw [add_block]; exact hn111_2) | (show (Addr.add _ _).block ≠ _; rw [add_block]; exact hn111_2) | exact hn111_2) (.bool false)).trans hx111_1; replace hx111_2 := (cell_far (p := ⟨gb108, 2, none⟩) (by first | (rw [add_block]; exact hn111_2) | (show (Addr.add _ _).block ≠ _; rw [add_block]; exact hn111_2) | exact hn111_2) (.bool false)).trans hx111_2; (try have hy111_0 := fun (n_ : Nat) => (show (((((w40.drewN n_).setCell ⟨gb108, 0, none⟩ (.string ((rd_T109 l0_1 x8_1).f0))).setCell ⟨gb108, 1, none⟩ (.string ((rd_T109 l0_1 x8_1).f1))).setCell ⟨gb108, 2, none⟩ (.bool false))).cell? _ = some _ from hx111_0)); (try have hy111_1 := fun (n_ : Nat) => (show (((((w40.drewN n_).setCell ⟨gb108, 0, none⟩ (.string ((rd_T109 l0_1 x8_1).f0))).setCell ⟨gb108, 1, none⟩ (.string ((rd_T109 l0_1 x8_1).f1))).setCell ⟨gb108, 2, none⟩ (.bool false))).cell? _ = some _ from hx111_1)); (try have hy111_2 := fun (n_ : Nat) => (show (((((w40.drewN n_).setCell ⟨gb108, 0, none⟩ (.string ((rd_T109 l0_1 x8_1).f0))).setCell ⟨gb108, 1, none⟩ (.string ((rd_T109 l0_1 x8_1).f1))).setCell ⟨gb108, 2, none⟩ (.bool false))).cell? _ = some _ from hx111_2)); clear hn111_0; clear hn111_1; clear hn111_2; replace p111 := eq_true p111; replace q111 := eq_true q111)))
                          go_roundg k1
                          case measure => have := HK1.out; omega
                          case rel => exact ⟨(wrap64 (x8_1 + 1)), t10_, H', ⟨by have := HK1.out; omega⟩, ⟨by (with_reducible repeat (first | refine blk_drewN ?_ _ | refine blk_drew ?_ | refine blk_alloc ?_ _)); refine blk_far ?_ NB106_108.out _; (with_reducible repeat (first | refine blk_drewN ?_ _ | refine blk_drew ?_ | refine blk_alloc ?_ _)); refine blk_far ?_ NB106_108.out _; (with_reducible repeat (first | refine blk_drewN ?_ _ | refine blk_drew ?_ | refine blk_alloc ?_ _)); refine blk_far ?_ NB106_108.out _; (with_reducible repeat (first | refine blk_drewN ?_ _ | refine blk_drew ?_ | refine blk_alloc ?_ _)); exact BK106.out⟩, ⟨t16_⟩⟩
                        · rw [if_neg c39] at H
                          have c39b0 : (Op.bytesLess (((rd_T109 l0_1 (ji36)).f0).toList) (((rd_T109 l0_1 x8_1).f0).toList)) = false := by simpa using c39
                          obtain ⟨c39b7, c39b6⟩ := bl_gtr_f c39b0
                          clear c39
                          obtain rfl := Option.some.inj H
                          have p107 : 0 ≤ (x8_1 : Int) := of_decide_eq_true t4_
                          have q107 : x8_1 < (l0_1.length : Int) := of_decide_eq_true t4_
                          obtain ⟨ad107, e107, hx107_0, hx107_1, hx107_2⟩ := at_T109 HR0_1.out x8_1 p107 q107
                          (try rw [← Nbq13.out] at hx107_2)
                          (try rw [← Nbq13.out] at hw107_2)
                          cases e107
                          replace hx107_0 := (HB.out.cell (World.block_lt_of_cell? w _ hx107_0)).trans hx107_0
                          replace hx107_1 := (HB.out.cell (World.block_lt_of_cell? w _ hx107_1)).trans hx107_1
                          replace hx107_2 := (HB.out.cell (World.block_lt_of_cell? w _ hx107_2)).trans hx107_2
                          replace p107 := eq_true p107
                          replace q107 := eq_true q107
                          go_wp2_with (first | ((with_reducible refine gate_dst (N := 4) rfl ?_); (try (refine gate_guard (by rfl) ?_; dsimp only)); refine boxE (N := 4) (cs := #[.string (⟨#[]⟩ : ByteArray), .string (⟨#[]⟩ : ByteArray), .bool false]) (t := 109) (h := ?_); intro gb108 hg w44 hbox hb; have BK108 := Aside0.mk (hbox); have GW108 := Aside0.mk ((t6_ : w.heap.size ≤ gb108)); have GE108 := Aside0.mk ((t6_ : w.heap.size ≤ gb108)); replace HB := Aside0.mk (below_step t2_ hb); have NB106_108 := nbL BK106 hg; have NB108_106 := nbG BK106 hg; replace BK106 := bkN BK106 hb; clear hb hbox hg; have hnb45 := NB108_106.out; have hnc45 := NB106_108.out; have hcz46_0 := bc0 BK108; have hcz46_1 := bc1 BK108; have hcz46_2 := bc2 BK108; have hfz46_0 := bf BK108 0; have hfz46_1 := bf BK108 1; have hfz46_2 := bf BK108 2) | (go_at_call 105; (with_reducible refine (impl_keyOk.calls ((rd_T109 l0_1 x8_1).f0) true _ A7.out).mono ?_); rintro e w' ⟨rfl, ⟨nd, rfl⟩⟩; (try first | exact ⟨rfl, _, World.drewN_drewN _ _ _⟩ | exact ⟨rfl, _, Eq.trans (World.drewN_drewN _ _ _) (congrArg (World.drewN _) (Nat.add_assoc _ _ _))⟩); have hcz47_0 := bc0 BK106; have hcz47_1 := bc1 BK106; have hfz47_0 := bf BK106 0; have hfz47_1 := bf BK106 1; have p111 : 0 ≤ ((ji36) : Int) := of_decide_eq_true t4_; have q111 : (ji36) < (l0_1.length : Int) := of_decide_eq_true t4_; obtain ⟨ad111, e111, hx111_0, hx111_1, hx111_2⟩ := at_T109 HR0_1.out (ji36) p111 q111; (try rw [← Nbq13.out] at hx111_2); obtain rfl : ad107 = ad111 := (by injection e111); have hn111_0 : ad107.block ≠ gb108 := Nat.ne_of_lt (Nat.lt_of_lt_of_le (by have := World.block_lt_of_cell? _ _ hx111_0; first | rwa [add_block] at this | exact this) GW108.out); have hn111_1 : ad107.block ≠ gb108 := Nat.ne_of_lt (Nat.lt_of_lt_of_le (by have := World.block_lt_of_cell? _ _ hx111_0; first | rwa [add_block] at this | exact this) GW108.out); have hn111_2 : ad107.block ≠ gb108 := Nat.ne_of_lt (Nat.lt_of_lt_of_le (by have := World.block_lt_of_cell? _ _ hx111_0; first | rwa [add_block] at this | exact this) GW108.out); replace hx111_0 := (HB.out.cell (World.block_lt_of_cell? w _ hx111_0)).trans hx111_0; replace hx111_1 := (HB.out.cell (World.block_lt_of_cell? w _ hx111_1)).trans hx111_1; replace hx111_2 := (HB.out.cell (World.block_lt_of_cell? w _ hx111_2)).trans hx111_2; replace hx111_0 := (cell_far (p := ⟨gb108, 0, none⟩) (by first | (rw [add_block]; exact hn111_0) | (show (Addr.add _ _).block ≠ _; rw [add_block]; exact hn111_0) | exact hn111_0) (.string ((rd_T109 l0_1 x8_1).f0))).trans hx111_0; replace hx111_1 := (cell_far (p := ⟨gb108, 0, none⟩) (by first | (rw [add_block]; exact hn111_0) | (show (Addr.add _ _).block ≠ _; rw [add_block]; exact hn111_0) | exact hn111_0) (.string ((rd_T109 l0_1 x8_1).f0))).trans hx111_1; replace hx111_2 := (cell_far (p := ⟨gb108, 0, none⟩) (by first | (rw [add_block]; exact hn111_0) | (show (Addr.add _ _).block ≠ _; rw [add_block]; exact hn111_0) | exact hn111_0) (.string ((rd_T109 l0_1 x8_1).f0))).trans hx111_2; replace hx111_0 := (cell_far (p := ⟨gb108, 1, none⟩) (by first | (rw [add_block]; exact hn111_1) | (show (Addr.add _ _).block ≠ _; rw [add_block]; exact hn111_1) | exact hn111_1) (.string ((rd_T109 l0_1 x8_1).f1))).trans hx111_0; replace hx111_1 := (cell_far (p := ⟨gb108, 1, none⟩) (by first | (rw [add_block]; exact hn111_1) | (show (Addr.add _ _).block ≠ _; rw [add_block]; exact hn111_1) | exact hn111_1) (.string ((rd_T109 l0_1 x8_1).f1))).trans hx111_1; replace hx111_2 := (cell_far (p := ⟨gb108, 1, none⟩) (by first | (rw [add_block]; exact hn111_1) | (show (Addr.add _ _).block ≠ _; rw [add_block]; exact hn111_1) | exact hn111_1) (.string ((rd_T109 l0_1 x8_1).f1))).trans hx111_2; replace hx111_0 := (cell_far (p := ⟨gb108, 2, none⟩) (by first | (rw [add_block]; exact hn111_2) | (show (Addr.add _ _).block ≠ _; rw [add_block]; exact hn111_2) | exact hn111_2) (.bool false)).trans hx111_0; replace hx111_1 := (cell_far (p := ⟨gb108, 2, none⟩) (by first | (rw [add_block]; exact hn111_2) | (show (Addr.add _ _).block ≠ _; rw [add_block]; exact hn111_2) | exact hn111_2) (.bool false)).trans hx111_1; replace hx111_2 := (cell_far (p := ⟨gb108, 2, none⟩) (by first | (rw [add_block]; exact hn111_2) | (show (Addr.add _ _).block ≠ _; rw [add_block]; exact hn111_2) | exact hn111_2) (.bool false)).trans hx111_2; (try have hy111_0 := fun (n_ : Nat) => (show (((((w44.drewN n_).setCell ⟨gb108, 0, none⟩ (.string ((rd_T109 l0_1 x8_1).f0))).setCell ⟨gb108, 1, none⟩ (.string ((rd_T109 l0_1 x8_1).f1))).setCell ⟨gb108, 2, none⟩ (.bool false))).cell? _ = some _ from hx111_0)); (try have hy111_1 := fun (n_ : Nat) => (show (((((w44.drewN n_).setCell ⟨gb108, 0, none⟩ (.string ((rd_T109 l0_1 x8_1).f0))).setCell ⟨gb108, 1, none⟩ (.string ((rd_T109 l0_1 x8_1).f1))).setCell ⟨gb108, 2, none⟩ (.bool false))).cell? _ = some _ from hx111_1)); (try have hy111_2 := fun (n_ : Nat) => (show (((((w44.drewN n_).setCell ⟨gb108, 0, none⟩ (.string ((rd_T109 l0_1 x8_1).f0))).setCell ⟨gb108, 1, none⟩ (.string ((rd_T109 l0_1 x8_1).f1))).setCell ⟨gb108, 2, none⟩ (.bool false))).cell? _ = some _ from hx111_2)); clear hn111_0; clear hn111_1; clear hn111_2; replace p111 := eq_true p111; replace q111 := eq_true q111))
                          repeat (go_quiet (first | ((with_reducible refine gate_dst (N := 4) rfl ?_); (try (refine gate_guard (by rfl) ?_; dsimp only)); refine boxE (N := 4) (cs := #[.string (⟨#[]⟩ : ByteArray), .string (⟨#[]⟩ : ByteArray), .bool false]) (t := 109) (h := ?_); intro gb108 hg w44 hbox hb; have BK108 := Aside0.mk (hbox); have GW108 := Aside0.mk ((t6_ : w.heap.size ≤ gb108)); have GE108 := Aside0.mk ((t6_ : w.heap.size ≤ gb108)); replace HB := Aside0.mk (below_step t2_ hb); have NB106_108 := nbL BK106 hg; have NB108_106 := nbG BK106 hg; replace BK106 := bkN BK106 hb; clear hb hbox hg; have hnb45 := NB108_106.out; have hnc45 := NB106_108.out; have hcz46_0 := bc0 BK108; have hcz46_1 := bc1 BK108; have hcz46_2 := bc2 BK108; have hfz46_0 := bf BK108 0; have hfz46_1 := bf BK108 1; have hfz46_2 := bf BK108 2) | (go_at_call 105; (with_reducible refine (impl_keyOk.calls ((rd_T109 l0_1 x8_1).f0) true _ A7.out).mono ?_); rintro e w' ⟨rfl, ⟨nd, rfl⟩⟩; (try first | exact ⟨rfl, _, World.drewN_drewN _ _ _⟩ | exact ⟨rfl, _, Eq.trans (World.drewN_drewN _ _ _) (congrArg (World.drewN _) (Nat.add_assoc _ _ _))⟩); have hcz47_0 := bc0 BK106; have hcz47_1 := bc1 BK106; have hfz47_0 := bf BK106 0; have hfz47_1 := bf BK106 1; have p111 : 0 ≤ ((ji36) : Int) := of_decide_eq_true t4_; have q111 : (ji36) < (l0_1.length : Int) := of_decide_eq_true t4_; obtain ⟨ad111, e111, hx111_0, hx111_1, hx111_2⟩ := at_T109 HR0_1.out (ji36) p111 q111; (try rw [← Nbq13.out] at hx111_2); obtain rfl : ad107 = ad111 := (by injection e111); have hn111_0 : ad107.block ≠ gb108 := Nat.ne_of_lt (Nat.lt_of_lt_of_le (by have := World.block_lt_of_cell? _ _ hx111_0; first | rwa [add_block] at this | exact this) GW108.out); have hn111_1 : ad107.block ≠ gb108 := Nat.ne_of_lt (Nat.lt_of_lt_of_le (by have := World.block_lt_of_cell? _ _ hx111_0; first | rwa [add_block] at this | exact this) GW108.out); have hn111_2 : ad107.block ≠ gb108 := Nat.ne_of_lt (Nat.lt_of_lt_of_le (by have := World.block_lt_of_cell? _ _ hx111_0; first | rwa [add_block] at this | exact this) GW108.out); replace hx111_0 := (HB.out.cell (World.block_lt_of_cell? w _ hx111_0)).trans hx111_0; replace hx111_1 := (HB.out.cell (World.block_lt_of_cell? w _ hx111_1)).trans hx111_1; replace hx111_2 := (HB.out.cell (World.block_lt_of_cell? w _ hx111_2)).trans hx111_2; replace hx111_0 := (cell_far (p := ⟨gb108, 0, none⟩) (by first | (rw [add_block]; exact hn111_0) | (show (Addr.add _ _).block ≠ _; rw [add_block]; exact hn111_0) | exact hn111_0) (.string ((rd_T109 l0_1 x8_1).f0))).trans hx111_0; replace hx111_1 := (cell_far (p := ⟨gb108, 0, none⟩) (by first | (rw [add_block]; exact hn111_0) | (show (Addr.add _ _).block ≠ _; rw [add_block]; exact hn111_0) | exact hn111_0) (.string ((rd_T109 l0_1 x8_1).f0))).trans hx111_1; replace hx111_2 := (cell_far (p := ⟨gb108, 0, none⟩) (by first | (rw [add_block]; exact hn111_0) | (show (Addr.add _ _).block ≠ _; rw [add_block]; exact hn111_0) | exact hn111_0) (.string ((rd_T109 l0_1 x8_1).f0))).trans hx111_2; replace hx111_0 := (cell_far (p := ⟨gb108, 1, none⟩) (by first | (rw [add_block]; exact hn111_1) | (show (Addr.add _ _).block ≠ _; rw [add_block]; exact hn111_1) | exact hn111_1) (.string ((rd_T109 l0_1 x8_1).f1))).trans hx111_0; replace hx111_1 := (cell_far (p := ⟨gb108, 1, none⟩) (by first | (rw [add_block]; exact hn111_1) | (show (Addr.add _ _).block ≠ _; rw [add_block]; exact hn111_1) | exact hn111_1) (.string ((rd_T109 l0_1 x8_1).f1))).trans hx111_1; replace hx111_2 := (cell_far (p := ⟨gb108, 1, none⟩) (by first | (rw [add_block]; exact hn111_1) | (show (Addr.add _ _).block ≠ _; rw [add_block]; exact hn111_1) | exact hn111_1) (.string ((rd_T109 l0_1 x8_1).f1))).trans hx111_2; replace hx111_0 := (cell_far (p := ⟨gb108, 2, none⟩) (by first | (rw [add_block]; exact hn111_2) | (show (Addr.add _ _).block ≠ _; rw [add_block]; exact hn111_2) | exact hn111_2) (.bool false)).trans hx111_0; replace hx111_1 := (cell_far (p := ⟨gb108, 2, none⟩) (by first | (rw [add_block]; exact hn111_2) | (show (Addr.add _ _).block ≠ _; rw [add_block]; exact hn111_2) | exact hn111_2) (.bool false)).trans hx111_1; replace hx111_2 := (cell_far (p := ⟨gb108, 2, none⟩) (by first | (rw [add_block]; exact hn111_2) | (show (Addr.add _ _).block ≠ _; rw [add_block]; exact hn111_2) | exact hn111_2) (.bool false)).trans hx111_2; (try have hy111_0 := fun (n_ : Nat) => (show (((((w44.drewN n_).setCell ⟨gb108, 0, none⟩ (.string ((rd_T109 l0_1 x8_1).f0))).setCell ⟨gb108, 1, none⟩ (.string ((rd_T109 l0_1 x8_1).f1))).setCell ⟨gb108, 2, none⟩ (.bool false))).cell? _ = some _ from hx111_0)); (try have hy111_1 := fun (n_ : Nat) => (show (((((w44.drewN n_).setCell ⟨gb108, 0, none⟩ (.string ((rd_T109 l0_1 x8_1).f0))).setCell ⟨gb108, 1, none⟩ (.string ((rd_T109 l0_1 x8_1).f1))).setCell ⟨gb108, 2, none⟩ (.bool false))).cell? _ = some _ from hx111_1)); (try have hy111_2 := fun (n_ : Nat) => (show (((((w44.drewN n_).setCell ⟨gb108, 0, none⟩ (.string ((rd_T109 l0_1 x8_1).f0))).setCell ⟨gb108, 1, none⟩ (.string ((rd_T109 l0_1 x8_1).f1))).setCell ⟨gb108, 2, none⟩ (.bool false))).cell? _ = some _ from hx111_2)); clear hn111_0; clear hn111_1; clear hn111_2; replace p111 := eq_true p111; replace q111 := eq_true q111)); try go_wp2_with (first | ((with_reducible refine gate_dst (N := 4) rfl ?_); (try (refine gate_guard (by rfl) ?_; dsimp only)); refine boxE (N := 4) (cs := #[.string (⟨#[]⟩ : ByteArray), .string (⟨#[]⟩ : ByteArray), .bool false]) (t := 109) (h := ?_); intro gb108 hg w44 hbox hb; have BK108 := Aside0.mk (hbox); have GW108 := Aside0.mk ((t6_ : w.heap.size ≤ gb108)); have GE108 := Aside0.mk ((t6_ : w.heap.size ≤ gb108)); replace HB := Aside0.mk (below_step t2_ hb); have NB106_108 := nbL BK106 hg; have NB108_106 := nbG BK106 hg; replace BK106 := bkN BK106 hb; clear hb hbox hg; have hnb45 := NB108_106.out; have hnc45 := NB106_108.out; have hcz46_0 := bc0 BK108; have hcz46_1 := bc1 BK108; have hcz46_2 := bc2 BK108; have hfz46_0 := bf BK108 0; have hfz46_1 := bf BK108 1; have hfz46_2 := bf BK108 2) | (go_at_call 105; (with_reducible refine (impl_keyOk.calls ((rd_T109 l0_1 x8_1).f0) true _ A7.out).mono ?_); rintro e w' ⟨rfl, ⟨nd, rfl⟩⟩; (try first | exact ⟨rfl, _, World.drewN_drewN _ _ _⟩ | exact ⟨rfl, _, Eq.trans (World.drewN_drewN _ _ _) (congrArg (World.drewN _) (Nat.add_assoc _ _ _))⟩); have hcz47_0 := bc0 BK106; have hcz47_1 := bc1 BK106; have hfz47_0 := bf BK106 0; have hfz47_1 := bf BK106 1; have p111 : 0 ≤ ((ji36) : Int) := of_decide_eq_true t4_; have q111 : (ji36) < (l0_1.length : Int) := of_decide_eq_true t4_; obtain ⟨ad111, e111, hx111_0, hx111_1, hx111_2⟩ := at_T109 HR0_1.out (ji36) p111 q111; (try rw [← Nbq13.out] at hx111_2); obtain rfl : ad107 = ad111 := (by injection e111); have hn111_0 : ad107.block ≠ gb108 := Nat.ne_of_lt (Nat.lt_of_lt_of_le (by have := World.block_lt_of_cell? _ _ hx111_0; first | rwa [add_block] at this | exact this) GW108.out); have hn111_1 : ad107.block ≠ gb108 := Nat.ne_of_lt (Nat.lt_of_lt_of_le (by have := World.block_lt_of_cell? _ _ hx111_0; first | rwa [add_block] at this | exact this) GW108.out); have hn111_2 : ad107.block ≠ gb108 := Nat.ne_of_lt (Nat.lt_of_lt_of_le (by have := World.block_lt_of_cell? _ _ hx111_0; first | rwa [add_block] at this | exact this) GW108.out); replace hx111_0 := (HB.out.cell (World.block_lt_of_cell? w _ hx111_0)).trans hx111_0; replace hx111_1 := (HB.out.cell (World.block_lt_of_cell? w _ hx111_1)).trans hx111_1; replace hx111_2 := (HB.out.cell (World.block_lt_of_cell? w _ hx111_2)).trans hx111_2; replace hx111_0 := (cell_far (p := ⟨gb108, 0, none⟩) (by first | (rw [add_block]; exact hn111_0) | (show (Addr.add _ _).block ≠ _; rw [add_block]; exact hn111_0) | exact hn111_0) (.string ((rd_T109 l0_1 x8_1).f0))).trans hx111_0; replace hx111_1 := (cell_far (p := ⟨gb108, 0, none⟩) (by first | (rw [add_block]; exact hn111_0) | (show (Addr.add _ _).block ≠ _; rw [add_block]; exact hn111_0) | exact hn111_0) (.string ((rd_T109 l0_1 x8_1).f0))).trans hx111_1; replace hx111_2 := (cell_far (p := ⟨gb108, 0, none⟩) (by first | (rw [add_block]; exact hn111_0) | (show (Addr.add _ _).block ≠ _; rw [add_block]; exact hn111_0) | exact hn111_0) (.string ((rd_T109 l0_1 x8_1).f0))).trans hx111_2; replace hx111_0 := (cell_far (p := ⟨gb108, 1, none⟩) (by first | (rw [add_block]; exact hn111_1) | (show (Addr.add _ _).block ≠ _; rw [add_block]; exact hn111_1) | exact hn111_1) (.string ((rd_T109 l0_1 x8_1).f1))).trans hx111_0; replace hx111_1 := (cell_far (p := ⟨gb108, 1, none⟩) (by first | (rw [add_block]; exact hn111_1) | (show (Addr.add _ _).block ≠ _; rw [add_block]; exact hn111_1) | exact hn111_1) (.string ((rd_T109 l0_1 x8_1).f1))).trans hx111_1; replace hx111_2 := (cell_far (p := ⟨gb108, 1, none⟩) (by first | (rw [add_block]; exact hn111_1) | (show (Addr.add _ _).block ≠ _; rw [add_block]; exact hn111_1) | exact hn111_1) (.string ((rd_T109 l0_1 x8_1).f1))).trans hx111_2; replace hx111_0 := (cell_far (p := ⟨gb108, 2, none⟩) (by first | (rw [add_block]; exact hn111_2) | (show (Addr.add _ _).block ≠ _; rw [add_block]; exact hn111_2) | exact hn111_2) (.bool false)).trans hx111_0; replace hx111_1 := (cell_far (p := ⟨gb108, 2, none⟩) (by first | (rw [add_block]; exact hn111_2) | (show (Addr.add _ _).block ≠ _; rw [add_block]; exact hn111_2) | exact hn111_2) (.bool false)).trans hx111_1; replace hx111_2 := (cell_far (p := ⟨gb108, 2, none⟩) (by first | (rw [add_block]; exact hn111_2) | (show (Addr.add _ _).block ≠ _; rw [add_block]; exact hn111_2) | exact hn111_2) (.bool false)).trans hx111_2; (try have hy111_0 := fun (n_ : Nat) => (show (((((w44.drewN n_).setCell ⟨gb108, 0, none⟩ (.string ((rd_T109 l0_1 x8_1).f0))).setCell ⟨gb108, 1, none⟩ (.string ((rd_T109 l0_1 x8_1).f1))).setCell ⟨gb108, 2, none⟩ (.bool false))).cell? _ = some _ from hx111_0)); (try have hy111_1 := fun (n_ : Nat) => (show (((((w44.drewN n_).setCell ⟨gb108, 0, none⟩ (.string ((rd_T109 l0_1 x8_1).f0))).setCell ⟨gb108, 1, none⟩ (.string ((rd_T109 l0_1 x8_1).f1))).setCell ⟨gb108, 2, none⟩ (.bool false))).cell? _ = some _ from hx111_1)); (try have hy111_2 := fun (n_ : Nat) => (show (((((w44.drewN n_).setCell ⟨gb108, 0, none⟩ (.string ((rd_T109 l0_1 x8_1).f0))).setCell ⟨gb108, 1, none⟩ (.string ((rd_T109 l0_1 x8_1).f1))).setCell ⟨gb108, 2, none⟩ (.bool false))).cell? _ = some _ from hx111_2)); clear hn111_0; clear hn111_1; clear hn111_2; replace p111 := eq_true p111; replace q111 := eq_true q111)))
                          go_ret
                          exact ⟨by first | rfl | (simp [errW_none, errW_some] <;> rfl) | (simp only [← hji36]; first | rfl | (simp [errW_none, errW_some] <;> rfl)) | (simp [*, errW_none, errW_some] <;> rfl), t16_⟩
                      · rw [if_neg c38] at H
                        exact absurd H (by simp)
                    · rw [if_neg c37] at H
                      exact absurd H (by simp)
                  · rw [if_neg c35] at H
                    have c35b0 : decide (0 < x8_1) = false := decide_eq_false c35
                    clear c35
                    have H' := Aside0.mk H
                    clear H
                    have p107 : 0 ≤ (x8_1 : Int) := of_decide_eq_true t4_
                    have q107 : x8_1 < (l0_1.length : Int) := of_decide_eq_true t4_
                    obtain ⟨ad107, e107, hx107_0, hx107_1, hx107_2⟩ := at_T109 HR0_1.out x8_1 p107 q107
                    (try rw [← Nbq13.out] at hx107_2)
                    (try rw [← Nbq13.out] at hw107_2)
                    cases e107
                    replace hx107_0 := (HB.out.cell (World.block_lt_of_cell? w _ hx107_0)).trans hx107_0
                    replace hx107_1 := (HB.out.cell (World.block_lt_of_cell? w _ hx107_1)).trans hx107_1
                    replace hx107_2 := (HB.out.cell (World.block_lt_of_cell? w _ hx107_2)).trans hx107_2
                    replace p107 := eq_true p107
                    replace q107 := eq_true q107
                    go_wp2_with (first | ((with_reducible refine gate_dst (N := 4) rfl ?_); (try (refine gate_guard (by rfl) ?_; dsimp only)); refine boxE (N := 4) (cs := #[.string (⟨#[]⟩ : ByteArray), .string (⟨#[]⟩ : ByteArray), .bool false]) (t := 109) (h := ?_); intro gb108 hg w48 hbox hb; have BK108 := Aside0.mk (hbox); have GW108 := Aside0.mk ((t6_ : w.heap.size ≤ gb108)); have GE108 := Aside0.mk ((t6_ : w.heap.size ≤ gb108)); replace HB := Aside0.mk (below_step t2_ hb); have NB106_108 := nbL BK106 hg; have NB108_106 := nbG BK106 hg; replace BK106 := bkN BK106 hb; clear hb hbox hg; have hnb49 := NB108_106.out; have hnc49 := NB106_108.out; have hcz50_0 := bc0 BK108; have hcz50_1 := bc1 BK108; have hcz50_2 := bc2 BK108; have hfz50_0 := bf BK108 0; have hfz50_1 := bf BK108 1; have hfz50_2 := bf BK108 2) | (go_at_call 105; (with_reducible refine (impl_keyOk.calls ((rd_T109 l0_1 x8_1).f0) true _ A7.out).mono ?_); rintro e w' ⟨rfl, ⟨nd, rfl⟩⟩; (try first | exact ⟨rfl, _, World.drewN_drewN _ _ _⟩ | exact ⟨rfl, _, Eq.trans (World.drewN_drewN _ _ _) (congrArg (World.drewN _) (Nat.add_assoc _ _ _))⟩)))
                    repeat (go_quiet (first | ((with_reducible refine gate_dst (N := 4) rfl ?_); (try (refine gate_guard (by rfl) ?_; dsimp only)); refine boxE (N := 4) (cs := #[.string (⟨#[]⟩ : ByteArray), .string (⟨#[]⟩ : ByteArray), .bool false]) (t := 109) (h := ?_); intro gb108 hg w48 hbox hb; have BK108 := Aside0.mk (hbox); have GW108 := Aside0.mk ((t6_ : w.heap.size ≤ gb108)); have GE108 := Aside0.mk ((t6_ : w.heap.size ≤ gb108)); replace HB := Aside0.mk (below_step t2_ hb); have NB106_108 := nbL BK106 hg; have NB108_106 := nbG BK106 hg; replace BK106 := bkN BK106 hb; clear hb hbox hg; have hnb49 := NB108_106.out; have hnc49 := NB106_108.out; have hcz50_0 := bc0 BK108; have hcz50_1 := bc1 BK108; have hcz50_2 := bc2 BK108; have hfz50_0 := bf BK108 0; have hfz50_1 := bf BK108 1; have hfz50_2 := bf BK108 2) | (go_at_call 105; (with_reducible refine (impl_keyOk.calls ((rd_T109 l0_1 x8_1).f0) true _ A7.out).mono ?_); rintro e w' ⟨rfl, ⟨nd, rfl⟩⟩; (try first | exact ⟨rfl, _, World.drewN_drewN _ _ _⟩ | exact ⟨rfl, _, Eq.trans (World.drewN_drewN _ _ _) (congrArg (World.drewN _) (Nat.add_assoc _ _ _))⟩))); try go_wp2_with (first | ((with_reducible refine gate_dst (N := 4) rfl ?_); (try (refine gate_guard (by rfl) ?_; dsimp only)); refine boxE (N := 4) (cs := #[.string (⟨#[]⟩ : ByteArray), .string (⟨#[]⟩ : ByteArray), .bool false]) (t := 109) (h := ?_); intro gb108 hg w48 hbox hb; have BK108 := Aside0.mk (hbox); have GW108 := Aside0.mk ((t6_ : w.heap.size ≤ gb108)); have GE108 := Aside0.mk ((t6_ : w.heap.size ≤ gb108)); replace HB := Aside0.mk (below_step t2_ hb); have NB106_108 := nbL BK106 hg; have NB108_106 := nbG BK106 hg; replace BK106 := bkN BK106 hb; clear hb hbox hg; have hnb49 := NB108_106.out; have hnc49 := NB106_108.out; have hcz50_0 := bc0 BK108; have hcz50_1 := bc1 BK108; have hcz50_2 := bc2 BK108; have hfz50_0 := bf BK108 0; have hfz50_1 := bf BK108 1; have hfz50_2 := bf BK108 2) | (go_at_call 105; (with_reducible refine (impl_keyOk.calls ((rd_T109 l0_1 x8_1).f0) true _ A7.out).mono ?_); rintro e w' ⟨rfl, ⟨nd, rfl⟩⟩; (try first | exact ⟨rfl, _, World.drewN_drewN _ _ _⟩ | exact ⟨rfl, _, Eq.trans (World.drewN_drewN _ _ _) (congrArg (World.drewN _) (Nat.add_assoc _ _ _))⟩))))
                    go_roundg k1
                    case measure => have := HK1.out; omega
                    case rel => exact ⟨(wrap64 (x8_1 + 1)), t10_, H', ⟨by have := HK1.out; omega⟩, ⟨by (with_reducible repeat (first | refine blk_drewN ?_ _ | refine blk_drew ?_ | refine blk_alloc ?_ _)); refine blk_far ?_ NB106_108.out _; (with_reducible repeat (first | refine blk_drewN ?_ _ | refine blk_drew ?_ | refine blk_alloc ?_ _)); refine blk_far ?_ NB106_108.out _; (with_reducible repeat (first | refine blk_drewN ?_ _ | refine blk_drew ?_ | refine blk_alloc ?_ _)); refine blk_far ?_ NB106_108.out _; (with_reducible repeat (first | refine blk_drewN ?_ _ | refine blk_drew ?_ | refine blk_alloc ?_ _)); exact BK106.out⟩, ⟨t16_⟩⟩
            · replace c8 := Bool.eq_false_iff.mpr c8
              subst c8
              have H1 : (some false) = some r := by rw [if_neg (show ¬ (false = true) by decide)] at H; exact H
              clear H
              have H := H1
              clear H1
              obtain rfl := Option.some.inj H
              have p107 : 0 ≤ (x8_1 : Int) := of_decide_eq_true t4_
              have q107 : x8_1 < (l0_1.length : Int) := of_decide_eq_true t4_
              obtain ⟨ad107, e107, hx107_0, hx107_1, hx107_2⟩ := at_T109 HR0_1.out x8_1 p107 q107
              cases e107
              replace hx107_0 := (HB.out.cell (World.block_lt_of_cell? w _ hx107_0)).trans hx107_0
              replace hx107_1 := (HB.out.cell (World.block_lt_of_cell? w _ hx107_1)).trans hx107_1
              replace hx107_2 := (HB.out.cell (World.block_lt_of_cell? w _ hx107_2)).trans hx107_2
              replace p107 := eq_true p107
              replace q107 := eq_true q107
              go_wp2_with (first | ((with_reducible refine gate_dst (N := 4) rfl ?_); (try (refine gate_guard (by rfl) ?_; dsimp only)); refine boxE (N := 4) (cs := #[.string (⟨#[]⟩ : ByteArray), .string (⟨#[]⟩ : ByteArray), .bool false]) (t := 109) (h := ?_); intro gb108 hg w51 hbox hb; have BK108 := Aside0.mk (hbox); have GW108 := Aside0.mk ((t6_ : w.heap.size ≤ gb108)); have GE108 := Aside0.mk ((t6_ : w.heap.size ≤ gb108)); replace HB := Aside0.mk (below_step t2_ hb); have NB106_108 := nbL BK106 hg; have NB108_106 := nbG BK106 hg; replace BK106 := bkN BK106 hb; clear hb hbox hg; have hnb52 := NB108_106.out; have hnc52 := NB106_108.out; have hcz53_0 := bc0 BK108; have hcz53_1 := bc1 BK108; have hcz53_2 := bc2 BK108; have hfz53_0 := bf BK108 0; have hfz53_1 := bf BK108 1; have hfz53_2 := bf BK108 2) | (go_at_call 105; (with_reducible refine (impl_keyOk.calls ((rd_T109 l0_1 x8_1).f0) false _ A7.out).mono ?_); rintro e w' ⟨rfl, ⟨nd, rfl⟩⟩; (try first | exact ⟨rfl, _, World.drewN_drewN _ _ _⟩ | exact ⟨rfl, _, Eq.trans (World.drewN_drewN _ _ _) (congrArg (World.drewN _) (Nat.add_assoc _ _ _))⟩)))
              repeat (go_quiet (first | ((with_reducible refine gate_dst (N := 4) rfl ?_); (try (refine gate_guard (by rfl) ?_; dsimp only)); refine boxE (N := 4) (cs := #[.string (⟨#[]⟩ : ByteArray), .string (⟨#[]⟩ : ByteArray), .bool false]) (t := 109) (h := ?_); intro gb108 hg w51 hbox hb; have BK108 := Aside0.mk (hbox); have GW108 := Aside0.mk ((t6_ : w.heap.size ≤ gb108)); have GE108 := Aside0.mk ((t6_ : w.heap.size ≤ gb108)); replace HB := Aside0.mk (below_step t2_ hb); have NB106_108 := nbL BK106 hg; have NB108_106 := nbG BK106 hg; replace BK106 := bkN BK106 hb; clear hb hbox hg; have hnb52 := NB108_106.out; have hnc52 := NB106_108.out; have hcz53_0 := bc0 BK108; have hcz53_1 := bc1 BK108; have hcz53_2 := bc2 BK108; have hfz53_0 := bf BK108 0; have hfz53_1 := bf BK108 1; have hfz53_2 := bf BK108 2) | (go_at_call 105; (with_reducible refine (impl_keyOk.calls ((rd_T109 l0_1 x8_1).f0) false _ A7.out).mono ?_); rintro e w' ⟨rfl, ⟨nd, rfl⟩⟩; (try first | exact ⟨rfl, _, World.drewN_drewN _ _ _⟩ | exact ⟨rfl, _, Eq.trans (World.drewN_drewN _ _ _) (congrArg (World.drewN _) (Nat.add_assoc _ _ _))⟩))); try go_wp2_with (first | ((with_reducible refine gate_dst (N := 4) rfl ?_); (try (refine gate_guard (by rfl) ?_; dsimp only)); refine boxE (N := 4) (cs := #[.string (⟨#[]⟩ : ByteArray), .string (⟨#[]⟩ : ByteArray), .bool false]) (t := 109) (h := ?_); intro gb108 hg w51 hbox hb; have BK108 := Aside0.mk (hbox); have GW108 := Aside0.mk ((t6_ : w.heap.size ≤ gb108)); have GE108 := Aside0.mk ((t6_ : w.heap.size ≤ gb108)); replace HB := Aside0.mk (below_step t2_ hb); have NB106_108 := nbL BK106 hg; have NB108_106 := nbG BK106 hg; replace BK106 := bkN BK106 hb; clear hb hbox hg; have hnb52 := NB108_106.out; have hnc52 := NB106_108.out; have hcz53_0 := bc0 BK108; have hcz53_1 := bc1 BK108; have hcz53_2 := bc2 BK108; have hfz53_0 := bf BK108 0; have hfz53_1 := bf BK108 1; have hfz53_2 := bf BK108 2) | (go_at_call 105; (with_reducible refine (impl_keyOk.calls ((rd_T109 l0_1 x8_1).f0) false _ A7.out).mono ?_); rintro e w' ⟨rfl, ⟨nd, rfl⟩⟩; (try first | exact ⟨rfl, _, World.drewN_drewN _ _ _⟩ | exact ⟨rfl, _, Eq.trans (World.drewN_drewN _ _ _) (congrArg (World.drewN _) (Nat.add_assoc _ _ _))⟩))))
              go_ret
              exact ⟨by first | rfl | (simp [errW_none, errW_some] <;> rfl) | (simp [*, errW_none, errW_some] <;> rfl), t16_⟩
          · rw [if_neg c6] at H
            exact absurd H (by simp)
        · rw [if_neg c5] at H
          exact absurd H (by simp)
      · rw [if_neg c4] at H
        have c4b0 : decide (x8_1 < (l0_1.length : Int)) = false := decide_eq_false c4
        clear c4
        replace H := Option.bind_eq_some_iff.mp H
        obtain ⟨t112, A540, H⟩ := H
        replace H : (if t112 = true then (some (decide ((l0_1.length : Int) ≤ 60))) else (some false)) = some r := H
        have A54 := Aside0.mk A540
        clear A540
        by_cases c55 : t112 = true
        · subst c55
          have H1 : (some (decide ((l0_1.length : Int) ≤ 60))) = some r := by rw [if_pos rfl] at H; exact H
          clear H
          have H := H1
          clear H1
          obtain rfl := Option.some.inj H
          have hcz56_0 := bc0 BK106
          have hcz56_1 := bc1 BK106
          have hfz56_0 := bf BK106 0
          have hfz56_1 := bf BK106 1
          go_wp2_with (first | (go_at_call 60; (with_reducible refine (impl_within.calls a0_0 0 100000 true _ A54.out).mono ?_); rintro e w' ⟨rfl, ⟨nd, rfl⟩⟩; (try first | exact ⟨rfl, _, World.drewN_drewN _ _ _⟩ | exact ⟨rfl, _, Eq.trans (World.drewN_drewN _ _ _) (congrArg (World.drewN _) (Nat.add_assoc _ _ _))⟩)))
          repeat (go_quiet (first | (go_at_call 60; (with_reducible refine (impl_within.calls a0_0 0 100000 true _ A54.out).mono ?_); rintro e w' ⟨rfl, ⟨nd, rfl⟩⟩; (try first | exact ⟨rfl, _, World.drewN_drewN _ _ _⟩ | exact ⟨rfl, _, Eq.trans (World.drewN_drewN _ _ _) (congrArg (World.drewN _) (Nat.add_assoc _ _ _))⟩))); try go_wp2_with (first | (go_at_call 60; (with_reducible refine (impl_within.calls a0_0 0 100000 true _ A54.out).mono ?_); rintro e w' ⟨rfl, ⟨nd, rfl⟩⟩; (try first | exact ⟨rfl, _, World.drewN_drewN _ _ _⟩ | exact ⟨rfl, _, Eq.trans (World.drewN_drewN _ _ _) (congrArg (World.drewN _) (Nat.add_assoc _ _ _))⟩))))
          go_ret
          exact ⟨by first | rfl | (simp [errW_none, errW_some] <;> rfl) | (simp [*, errW_none, errW_some] <;> rfl), t2_⟩
        · replace c55 := Bool.eq_false_iff.mpr c55
          subst c55
          have H1 : (some false) = some r := by rw [if_neg (show ¬ (false = true) by decide)] at H; exact H
          clear H
          have H := H1
          clear H1
          obtain rfl := Option.some.inj H
          have hcz57_0 := bc0 BK106
          have hcz57_1 := bc1 BK106
          have hfz57_0 := bf BK106 0
          have hfz57_1 := bf BK106 1
          go_wp2_with (first | (go_at_call 60; (with_reducible refine (impl_within.calls a0_0 0 100000 false _ A54.out).mono ?_); rintro e w' ⟨rfl, ⟨nd, rfl⟩⟩; (try first | exact ⟨rfl, _, World.drewN_drewN _ _ _⟩ | exact ⟨rfl, _, Eq.trans (World.drewN_drewN _ _ _) (congrArg (World.drewN _) (Nat.add_assoc _ _ _))⟩)))
          repeat (go_quiet (first | (go_at_call 60; (with_reducible refine (impl_within.calls a0_0 0 100000 false _ A54.out).mono ?_); rintro e w' ⟨rfl, ⟨nd, rfl⟩⟩; (try first | exact ⟨rfl, _, World.drewN_drewN _ _ _⟩ | exact ⟨rfl, _, Eq.trans (World.drewN_drewN _ _ _) (congrArg (World.drewN _) (Nat.add_assoc _ _ _))⟩))); try go_wp2_with (first | (go_at_call 60; (with_reducible refine (impl_within.calls a0_0 0 100000 false _ A54.out).mono ?_); rintro e w' ⟨rfl, ⟨nd, rfl⟩⟩; (try first | exact ⟨rfl, _, World.drewN_drewN _ _ _⟩ | exact ⟨rfl, _, Eq.trans (World.drewN_drewN _ _ _) (congrArg (World.drewN _) (Nat.add_assoc _ _ _))⟩))))
          go_ret
          exact ⟨by first | rfl | (simp [errW_none, errW_some] <;> rfl) | (simp [*, errW_none, errW_some] <;> rfl), t2_⟩

/-! ### bytealg_CompareString: function 110 -/
def bytealg_CompareString.f (a0 : ByteArray) (a1 : ByteArray) : Option Int := some (Lib.compareBytes a0.data.toList a1.data.toList)
set_option maxHeartbeats 1000000 in
set_option maxRecDepth 100000 in
theorem bytealg_CompareString.same (a b : ByteArray) (w : World) :
    Calls Try.prog 110 #[.string a, .string b] w fun e w' => e = .returned (.int .i64 (Lib.compareBytes a.data.toList b.data.toList)) ∧ w' = w := by
  go_enter Try.func110, Try.ntmps110
  go_wp2
  rw [run_callFunc_extern Try.func133 (by kernel_rfl) (by kernel_rfl) (by kernel_rfl) (e := Extern.BytealgCompare.compare) (by kernel_rfl), Lib.run_compareString]
  simp only [Result.andThen]
  rw [Oper.upon_value]
  go_wp2
  go_ret
  exact ⟨rfl, rfl⟩
theorem bytealg_CompareString.calls (a0 : ByteArray) (a1 : ByteArray) (r : Int) (w : World) (h : bytealg_CompareString.f a0 a1 = some r) :
    Calls Try.prog 110 #[.string a0, .string a1] w fun e w' => e = .returned (.int .i64 r) ∧ Drawn0 w w' := by
  obtain rfl := Option.some.inj h
  exact (bytealg_CompareString.same a0 a1 w).mono fun e w' ⟨he, hw⟩ => ⟨he, by rw [hw]; exact Drawn0.refl w⟩

/-! ### strings_Compare: function 74 -/
def strings_Compare.f (a0 : ByteArray) (a1 : ByteArray) : Option (Int) := (bytealg_CompareString.f a0 a1).bind fun t113 => (some t113)
set_option maxHeartbeats 8000000 in
set_option maxRecDepth 100000 in
theorem strings_Compare.calls (a0 : ByteArray) (a1 : ByteArray) (r : Int) (w : World) (h : strings_Compare.f a0 a1 = some r) :
    Calls Try.prog 74 #[.string a0, .string a1] w fun e w' => e = .returned (.int .i64 r) ∧ Drawn0 w w' := by
  have H : ((bytealg_CompareString.f a0 a1).bind fun t113 => (some t113)) = some r := h
  clear h
  replace H := Option.bind_eq_some_iff.mp H
  obtain ⟨t113, A30, H⟩ := H
  replace H : (some t113) = some r := H
  have A3 := Aside0.mk A30
  clear A30
  obtain rfl := Option.some.inj H
  go_enter Try.func74, Try.ntmps74
  go_wp2_with (first | ((with_reducible refine gate_callee (f := 110) rfl ?_); refine goesL_ (some 7) rfl rfl Try.func110 (by kernel_rfl) rfl #[.string a0, .string a1] rfl t7_ ?_; (with_reducible refine (bytealg_CompareString.calls a0 a1 t113 _ A3.out).mono ?_); rintro e w' ⟨rfl, ⟨nd, rfl⟩⟩; refine ⟨_, rfl, ?_⟩))
  go_ret
  exact ⟨by first | rfl | (simp; done) | (simp [*]; done), t23_⟩

/-! ### impl_pairNo_1: function 107 -/
def impl_pairNo_1.f (a0_0 : ByteArray) (a0_1 : ByteArray) (a1 : ByteArray) : Option (Int) := (strings_Compare.f a0_0 a1).bind fun t115 => (some t115)
set_option maxHeartbeats 8000000 in
set_option maxRecDepth 100000 in
theorem impl_pairNo_1.calls (a0_0 : ByteArray) (a0_1 : ByteArray) (a1 : ByteArray) (r : Int) (w : World) (h : impl_pairNo_1.f a0_0 a0_1 a1 = some r) :
    Calls Try.prog 107 #[.agg #[.string a0_0, .string a0_1], .string a1] w fun e w' => e = .returned (.int .i64 r) ∧ Below w.heap.size w w' := by
  have hu59 := Try.underlying59
  have HB := Aside0.mk (Below.refl w.heap.size w)
  have H : ((strings_Compare.f a0_0 a1).bind fun t115 => (some t115)) = some r := h
  clear h
  replace H := Option.bind_eq_some_iff.mp H
  obtain ⟨t115, A30, H⟩ := H
  replace H : (some t115) = some r := H
  have A3 := Aside0.mk A30
  clear A30
  obtain rfl := Option.some.inj H
  go_enter Try.func107, Try.ntmps107
  go_wp2_with (first | ((with_reducible refine gate_dst (N := 2) rfl ?_); refine boxE (N := 2) (cs := #[.string a0_0, .string a0_1]) (t := 59) (h := ?_); intro gb114 hg w4 hbox hb; have BK114 := Aside0.mk (hbox); have GW114 := Aside0.mk ((t3_ : w.heap.size ≤ gb114)); have GE114 := Aside0.mk ((t3_ : w.heap.size ≤ gb114)); replace HB := Aside0.mk (below_step t0_ hb); clear hb hbox hg; have hcz5_0 := bc0 BK114; have hcz5_1 := bc1 BK114; have hfz5_0 := bf BK114 0; have hfz5_1 := bf BK114 1) | ((with_reducible refine gate_callee (f := 74) rfl ?_); refine goesL_ (some 8) rfl rfl Try.func74 (by kernel_rfl) rfl #[.string a0_0, .string a1] rfl t7_ ?_; (with_reducible refine (strings_Compare.calls a0_0 a1 t115 _ A3.out).mono ?_); rintro e w' ⟨rfl, ⟨nd, rfl⟩⟩; refine ⟨_, rfl, ?_⟩))
  go_ret
  exact ⟨by first | rfl | (simp [errW_none, errW_some] <;> rfl) | (simp [*, errW_none, errW_some] <;> rfl), by repeat (first | (with_reducible first | exact HB.out | apply below_alloc | apply pw_below_drewN | apply below_drew1 | refine below_set ?_ GE114.out) | exact HB.out)⟩

/-! ### impl_pairNo: function 71 -/
/-- The compared field against the name. -/
def impl_pairNo.cmp (l : List S59) (a1 : ByteArray) (i : Nat) : Int := Lib.compareBytes (rd_T59 l (i : Int)).f0.data.toList a1.data.toList
def impl_pairNo.mono0 (l : List S59) (a1 : ByteArray) : Bool :=
  decide (l.length ≤ 1048576) && (List.range l.length).all fun b => (List.range (b + 1)).all fun a => !decide (impl_pairNo.cmp l a1 b < 0) || decide (impl_pairNo.cmp l a1 a < 0)
def impl_pairNo.cnt (l : List S59) (a1 : ByteArray) : Nat := (List.range l.length).countP fun i => decide (impl_pairNo.cmp l a1 i < 0)
def impl_pairNo.f (l0_0 : List S59) (a1 : ByteArray) : Option (Int × Bool) :=
  if impl_pairNo.mono0 l0_0 a1 = true then some ((impl_pairNo.cnt l0_0 a1 : Int), decide (impl_pairNo.cnt l0_0 a1 < l0_0.length) && decide (impl_pairNo.cmp l0_0 a1 (impl_pairNo.cnt l0_0 a1) = 0)) else none
theorem impl_pairNo.mono1 {l : List S59} {a1 : ByteArray} (h : impl_pairNo.mono0 l a1 = true) : l.length ≤ 1048576 ∧ ∀ a b, a ≤ b → b < l.length → impl_pairNo.cmp l a1 b < 0 → impl_pairNo.cmp l a1 a < 0 := by
  unfold impl_pairNo.mono0 at h
  simp only [Bool.and_eq_true, decide_eq_true_eq, List.all_eq_true, List.mem_range, Bool.or_eq_true, Bool.not_eq_true', decide_eq_false_iff_not] at h
  exact ⟨h.1, fun a b hab hb hc => (h.2 b hb a (by omega)).resolve_left (fun h => h hc)⟩
theorem impl_pairNo.cnt_eq {l : List S59} {a1 : ByteArray} (i : Nat) (hi : i ≤ l.length) (h1 : ∀ t, t < i → impl_pairNo.cmp l a1 t < 0) (h2 : ∀ t, i ≤ t → t < l.length → 0 ≤ impl_pairNo.cmp l a1 t) : impl_pairNo.cnt l a1 = i := by
  unfold impl_pairNo.cnt
  have e : List.range l.length = List.range i ++ List.range' i (l.length - i) := by
    rw [List.range_eq_range', List.range_eq_range', show l.length = i + (l.length - i) by omega, ← List.range'_append_1, Nat.zero_add, show i + (l.length - i) - i = l.length - i by omega]
  rw [e, List.countP_append, List.countP_eq_length.2 (fun t ht => decide_eq_true (h1 t (List.mem_range.1 ht))), List.countP_eq_zero.2 (fun t ht => ?_), List.length_range]
  · rfl
  · rw [List.mem_range'_1] at ht
    have := h2 t (by omega) (by omega)
    simp only [decide_eq_true_eq]
    omega
/-- A call of a function value that captures nothing. -/
theorem impl_pairNo.goes {P : Program} {ops : Array Oper} {Q : Exit → Act → World → Prop} {rest : List Oper} {oi : Oper} {a : Act} {w : World} (N : Option Tmp) (hd : oi.dst = N) (hg : oi.guard = none) {f : FuncId} {fn : Func} {o : Operand} {xs : Array Operand} {ts : Array TypeId} (hf : P.funcs[f]? = some fn) (hname : (fn.name == "runtime.NumGoroutine") = false) (hb : fn.body.isSome = true) (args : Array Value)
    (hop : oi.op = .call { callee := .value o, args := xs, argTypes := ts }) (ho : a.eval o = .func (.func f) #[] #[]) (hargs : xs.map a.eval = args)
    (h : Calls P f args w fun e w' => ∃ v, e = .returned v ∧ wpList P ops Q rest (a.put N v) w') : wpList P ops Q (oi :: rest) a w := by
  refine wpList_plain hg fun K hK => ?_
  have he := enters_ hf hname hb args w
  have hrun : (execOp a.eval oi).run P w = .ok (.enter f args) w := by
    unfold execOp
    simp [hop, resolve, ho, Deferred.ofValue, invoke, hargs, he]
  unfold Oper.wp
  rw [hrun, Oper.upon_enter]
  refine h.mono fun e w'' hh => ?_
  obtain ⟨v, rfl, hk⟩ := hh
  subst hd
  exact hK _ _ hk
set_option maxHeartbeats 8000000 in
set_option maxRecDepth 100000 in
theorem impl_pairNo.search (A0 : Option Addr) (c0 : Nat) (l0 : List S59) (a1 : ByteArray) (w : World) (hr0 : Kd.C k59 w A0 l0.length l0) (hc0 : l0.length ≤ c0) (hm : impl_pairNo.mono0 l0 a1 = true) :
    Calls Try.prog 106 #[.slice A0 l0.length c0, .string a1, .func (.func 107) #[] #[]] w fun e w' => e = .returned (.tuple #[.int .i64 (impl_pairNo.cnt l0 a1 : Int), .bool (decide (impl_pairNo.cnt l0 a1 < l0.length) && decide (impl_pairNo.cmp l0 a1 (impl_pairNo.cnt l0 a1) = 0))]) ∧ Below w.heap.size w w' := by
  have hu59 := Try.underlying59
  have e107 : ∀ args w, (callFunc 107 args).run Try.prog w = .ok (.enter 107 args) w := enters_ Try.func107 (by kernel_rfl) rfl
  obtain ⟨hsz, hmono⟩ := impl_pairNo.mono1 hm
  have M : Aside (∀ a b, a ≤ b → b < l0.length → impl_pairNo.cmp l0 a1 b < 0 → impl_pairNo.cmp l0 a1 a < 0) := hmono
  clear hmono hm
  have HR0 := Aside0.mk hr0
  have HC0 := Aside0.mk hc0
  clear hr0 hc0
  have HB := Aside0.mk (Below.refl w.heap.size w)
  generalize hcnt : impl_pairNo.cnt l0 a1 = cnt
  have CN : Aside (impl_pairNo.cnt l0 a1 = cnt) := hcnt
  clear hcnt
  generalize hfin : (decide (cnt < l0.length) && decide (impl_pairNo.cmp l0 a1 cnt = 0)) = fin
  have FIN : Aside ((decide (cnt < l0.length) && decide (impl_pairNo.cmp l0 a1 cnt = 0)) = fin) := hfin
  clear hfin
  generalize hn : l0.length = n at HC0 hsz
  have N : Aside (l0.length = n) := hn
  clear hn
  go_enter Try.func106, Try.ntmps106
  go_wp2
  go_loopg [9, 10] n (fun kx s9 s10 wr => ∃ lo hi : Nat, s9 = .int .i64 lo ∧ s10 = .int .i64 hi ∧ lo ≤ hi ∧ hi ≤ n ∧ hi - lo ≤ kx ∧ Aside0 (Below w.heap.size w wr) ∧
    Aside ((∀ t, t < lo → impl_pairNo.cmp l0 a1 t < 0) ∧ (∀ t, hi ≤ t → t < n → 0 ≤ impl_pairNo.cmp l0 a1 t)))
  case atStart => exact ⟨0, n, rfl, rfl, Nat.zero_le _, Nat.le_refl _, by omega, ⟨t0_⟩, ⟨fun t ht => absurd ht (Nat.not_lt_zero _), fun t h1 h2 => by omega⟩⟩
  case round =>
    clear HB
    obtain ⟨lo, hi, rfl, rfl, hlh, hin, hg, HB, I⟩ := hrel
    by_cases hlt : lo < hi
    · obtain ⟨ad, e, hx0, hx1⟩ := at_T59 HR0.out ((((lo + hi) / 2 : Nat)) : Int) (by omega) (by have := N.out; omega)
      subst e
      rw [Int.toNat_natCast] at hx0 hx1
      generalize hy : rd_T59 l0 (((lo + hi) / 2 : Nat) : Int) = y at hx0 hx1
      have Y : Aside (rd_T59 l0 (((lo + hi) / 2 : Nat) : Int) = y) := hy
      clear hy
      replace hx0 := (HB.out.cell (World.block_lt_of_cell? w _ hx0)).trans hx0
      replace hx1 := (HB.out.cell (World.block_lt_of_cell? w _ hx1)).trans hx1
      have p1 : (0 ≤ ((lo : Int) + (hi : Int)) / 2) = True := eq_true (by omega)
      have p2 : (((lo : Int) + (hi : Int)) / 2 < (n : Int)) = True := eq_true (by omega)
      have p3 : (((lo : Int) + (hi : Int)) / 2).toNat = (lo + hi) / 2 := by omega
      have hc := impl_pairNo_1.calls y.f0 y.f1 a1 _ wr rfl
      by_cases hyx : Lib.compareBytes y.f0.data.toList a1.data.toList < 0
      · have hyb : decide (Lib.compareBytes y.f0.data.toList a1.data.toList < 0) = true := decide_eq_true hyx
        go_wp2_with ((with_reducible refine gate_dst (N := 30) rfl ?_); (try (refine gate_guard (by rfl) ?_; dsimp only)); refine impl_pairNo.goes (some 30) rfl rfl Try.func107 (by kernel_rfl) rfl #[.agg #[.string y.f0, .string y.f1], .string a1] rfl rfl t35_ ?_; refine (impl_pairNo_1.calls y.f0 y.f1 a1 _ _ rfl).mono ?_; rintro e w' ⟨rfl, hb⟩; refine ⟨_, rfl, ?_⟩; have n0_ := Aside0.mk (below_step t0_ hb); clear HB; have HB := n0_; clear n0_ hb)
        go_roundg (hi - ((lo + hi) / 2 + 1))
        case measure => omega
        case rel =>
          refine ⟨(lo + hi) / 2 + 1, hi, by rw [show ((lo : Int) + (hi : Int)) / 2 + 1 = (((lo + hi) / 2 + 1 : Nat) : Int) by omega], rfl, by omega, hin, Nat.le_refl _, ⟨t0_⟩, ⟨fun t ht => M.out t ((lo + hi) / 2) (by omega) (by have := N.out; omega) ?_, I.out.2⟩⟩
          unfold impl_pairNo.cmp
          rw [Y.out]
          exact hyx
      · have hyb : decide (Lib.compareBytes y.f0.data.toList a1.data.toList < 0) = false := decide_eq_false hyx
        have I2 : Aside ((∀ t, t < lo → impl_pairNo.cmp l0 a1 t < 0) ∧ (∀ t, (lo + hi) / 2 ≤ t → t < n → 0 ≤ impl_pairNo.cmp l0 a1 t)) := ⟨I.out.1, fun t ht htn => Int.not_lt.1 fun h => hyx (by
          have := M.out ((lo + hi) / 2) t ht (by have := N.out; omega) h
          unfold impl_pairNo.cmp at this
          rw [Y.out] at this
          exact this)⟩
        go_wp2_with ((with_reducible refine gate_dst (N := 30) rfl ?_); (try (refine gate_guard (by rfl) ?_; dsimp only)); refine impl_pairNo.goes (some 30) rfl rfl Try.func107 (by kernel_rfl) rfl #[.agg #[.string y.f0, .string y.f1], .string a1] rfl rfl t35_ ?_; refine (impl_pairNo_1.calls y.f0 y.f1 a1 _ _ rfl).mono ?_; rintro e w' ⟨rfl, hb⟩; refine ⟨_, rfl, ?_⟩; have n0_ := Aside0.mk (below_step t0_ hb); clear HB; have HB := n0_; clear n0_ hb)
        go_roundg ((lo + hi) / 2 - lo)
        case measure => omega
        case rel =>
          exact ⟨lo, (lo + hi) / 2, rfl, by rw [show ((lo : Int) + (hi : Int)) / 2 = (((lo + hi) / 2 : Nat) : Int) by omega], by omega, by omega, Nat.le_refl _, ⟨t0_⟩, I2⟩
    · obtain rfl : hi = lo := by omega
      have ecnt : cnt = hi := by
        rw [← CN.out]
        exact impl_pairNo.cnt_eq hi (by have := N.out; omega) I.out.1 (fun t h1 h2 => I.out.2 t h1 (by have := N.out; omega))
      subst ecnt
      by_cases hn : cnt < n
      · obtain ⟨ad, e, hx0, hx1⟩ := at_T59 HR0.out (cnt : Int) (by omega) (by have := N.out; omega)
        subst e
        rw [Int.toNat_natCast] at hx0 hx1
        generalize hy : rd_T59 l0 (cnt : Int) = y at hx0 hx1
        have Y : Aside (rd_T59 l0 (cnt : Int) = y) := hy
        clear hy
        replace hx0 := (HB.out.cell (World.block_lt_of_cell? w _ hx0)).trans hx0
        replace hx1 := (HB.out.cell (World.block_lt_of_cell? w _ hx1)).trans hx1
        have p1 : (0 ≤ (cnt : Int)) = True := eq_true (by omega)
        have p2 : ((cnt : Int) < (n : Int)) = True := eq_true (by omega)
        by_cases hyx : Lib.compareBytes y.f0.data.toList a1.data.toList = 0
        · go_wp2_with ((with_reducible refine gate_dst (N := 46) rfl ?_); (try (refine gate_guard (by rfl) ?_; dsimp only)); refine impl_pairNo.goes (some 46) rfl rfl Try.func107 (by kernel_rfl) rfl #[.agg #[.string y.f0, .string y.f1], .string a1] rfl rfl t35_ ?_; refine (impl_pairNo_1.calls y.f0 y.f1 a1 _ _ rfl).mono ?_; rintro e w' ⟨rfl, hb⟩; refine ⟨_, rfl, ?_⟩; have n0_ := Aside0.mk (below_step t0_ hb); clear HB; have HB := n0_; clear n0_ hb)
          go_ret2
          refine ⟨?_, t0_⟩
          rw [← FIN.out, ← N.out]
          unfold impl_pairNo.cmp
          rw [Y.out]
          simp [N.out, hn, hyx]
        · go_wp2_with ((with_reducible refine gate_dst (N := 46) rfl ?_); (try (refine gate_guard (by rfl) ?_; dsimp only)); refine impl_pairNo.goes (some 46) rfl rfl Try.func107 (by kernel_rfl) rfl #[.agg #[.string y.f0, .string y.f1], .string a1] rfl rfl t35_ ?_; refine (impl_pairNo_1.calls y.f0 y.f1 a1 _ _ rfl).mono ?_; rintro e w' ⟨rfl, hb⟩; refine ⟨_, rfl, ?_⟩; have n0_ := Aside0.mk (below_step t0_ hb); clear HB; have HB := n0_; clear n0_ hb)
          go_ret2
          refine ⟨?_, t0_⟩
          rw [← FIN.out, ← N.out]
          unfold impl_pairNo.cmp
          rw [Y.out]
          simp [N.out, hn, hyx]
      · go_wp2
        go_ret2
        refine ⟨?_, t0_⟩
        rw [← FIN.out, ← N.out]
        simp [N.out, hn]
set_option maxHeartbeats 8000000 in
set_option maxRecDepth 100000 in
theorem impl_pairNo.calls (A0 : Option Addr) (c0 : Nat) (l0 : List (S59)) (a1 : ByteArray) (r1 : Int) (r2 : Bool) (w : World) (hr0 : Kd.C k59 w A0 l0.length l0) (hc0 : l0.length ≤ c0) (h : impl_pairNo.f l0 a1 = some (r1, r2)) :
    Calls Try.prog 71 #[.slice A0 l0.length c0, .string a1] w fun e w' => e = .returned (.tuple #[.int .i64 r1, .bool r2]) ∧ Below w.heap.size w w' := by
  unfold impl_pairNo.f at h
  by_cases hm : impl_pairNo.mono0 l0 a1 = true
  · rw [if_pos hm] at h
    simp only [Option.some.injEq, Prod.mk.injEq] at h
    obtain ⟨rfl, rfl⟩ := h
    have HB := Aside0.mk (Below.refl w.heap.size w)
    have HR := Aside0.mk hr0
    have HC := Aside0.mk hc0
    clear hr0 hc0
    go_enter Try.func71, Try.ntmps71
    go_wp2_with (first | ((with_reducible refine gate_callee (f := 106) rfl ?_); refine goesL_ (some 8) rfl rfl Try.func106 (by kernel_rfl) rfl #[.slice A0 l0.length c0, .string a1, .func (.func 107) #[] #[]] rfl t7_ ?_; (with_reducible refine (impl_pairNo.search _ _ l0 a1 _ ?side1 ?side2 hm).mono ?_); (case side1 => exact (Kd.C_below HR.out HB.out)); (case side2 => exact HC.out); rintro e w13 ⟨rfl, hb⟩; refine ⟨_, rfl, ?_⟩; have n1_ := Aside0.mk (below_step t0_ hb); clear HB; have HB := n1_; clear n1_ hb))
    go_ret2
    exact ⟨by first | rfl | (simp; done) | (simp [*]; done), t0_⟩
  · rw [if_neg hm] at h
    exact absurd h (by simp)

end Go.Proofs.Ytpjhbhjmaggheaa.QFnExactMapDo
