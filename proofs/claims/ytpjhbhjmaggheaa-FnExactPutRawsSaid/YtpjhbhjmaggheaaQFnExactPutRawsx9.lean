-- By a program of this session, over the kit's print.
import Derived.Test.YtpjhbhjmaggheaaQFnExactPutRawsx0
import Derived.Test.YtpjhbhjmaggheaaQFnExactPutRawsx6
import Derived.Test.YtpjhbhjmaggheaaQFnExactPutRawsx7
import Derived.Test.YtpjhbhjmaggheaaQFnExactPutRawsx8
namespace Go.Proofs.Ytpjhbhjmaggheaa.QFnExactPutRaws
open Go.RowKit Go.Proofs.YtpjhbhjmaggheaaW.PrintWords Go.Proofs.YtpjhbhjmaggheaaW.PrintLast Go.Proofs.YtpjhbhjmaggheaaW.PrintMore
attribute [local go_sem] max2_int min2_int max_two min_two max_three min_three max_four min_four   -- for this text's walks alone
set_option linter.unusedVariables false
set_option linter.unusedSimpArgs false

/-! ### spec_PutRaw: function 36 -/
def spec_PutRaw.j0 : Nat → Int → Bool → List (S71) → Int → ByteArray → ByteArray → ByteArray → Option ((List (S71)) × Bool)
  | 0, _, _, _, _, _, _, _ => none
  | k + 1, x6, x29, x298000, x299000, x299001, x299002, x299003 => if x29 = true then (some (([] : List (S71)), false)) else ((some (([] : List (S71)) : List (S71))).bind fun y303 => (if y303.length + x298000.length < 4398046511104 then ((some (y303 ++ x298000 : List (S71))).bind fun y306 => (if x299000 = 1 then ((spec_l03Put.f k x298000 x299001 x299003).bind fun t310 => ((spec_DiskOk.f k t310).bind fun t313 => (if t313 = true then (some (t310, true)) else (some (([] : List (S71)), false))))) else (if x299000 = 2 then ((spec_l03Text.f k x298000 x299001).bind fun t314 => (if t314.size + x299003.size ≤ 9223372036854775807 then ((spec_l03Put.f k x298000 x299001 (t314 ++ x299003)).bind fun t315 => ((spec_DiskOk.f k t315).bind fun t318 => (if t318 = true then (some (t315, true)) else (some (([] : List (S71)), false))))) else (none))) else (if x299000 = 3 then (if x299002.toList = x299001.toList then ((spec_DiskOk.f k y306).bind fun t319 => (if t319 = true then (some (y306, true)) else (some (([] : List (S71)), false)))) else ((spec_l03Drop.f k x298000 x299001).bind fun t320 => (if 0 ≤ x6 then (if x6 < (x298000.length : Int) then ((spec_l03Put.f k t320 x299002 ((rd_T71 x298000 x6).f1)).bind fun t324 => ((spec_DiskOk.f k t324).bind fun t327 => (if t327 = true then (some (t324, true)) else (some (([] : List (S71)), false))))) else (none)) else (none)))) else (if x299000 = 4 then ((spec_l03Drop.f k x298000 x299001).bind fun t328 => ((spec_DiskOk.f k t328).bind fun t331 => (if t331 = true then (some (t328, true)) else (some (([] : List (S71)), false))))) else ((spec_DiskOk.f k y306).bind fun t332 => (if t332 = true then (some (y306, true)) else (some (([] : List (S71)), false))))))))) else (none)))
def spec_PutRaw.f (k : Nat) (l0_0 : List (S71)) (a1_0 : Int) (a1_1 : ByteArray) (a1_2 : ByteArray) (a1_3 : ByteArray) : Option ((List (S71)) × Bool) := (spec_l03At.f k l0_0 a1_1).bind fun t300 => ((spec_DiskOk.f k l0_0).bind fun t301 => (if t301 = true then ((spec_l01In.f a1_0 1 4).bind fun t302 => (if t302 = true then (if t300 < 0 then (spec_PutRaw.j0 k t300 (decide (a1_0 ≥ 3)) l0_0 a1_0 a1_1 a1_2 a1_3) else (spec_PutRaw.j0 k t300 false l0_0 a1_0 a1_1 a1_2 a1_3)) else (spec_PutRaw.j0 k t300 true l0_0 a1_0 a1_1 a1_2 a1_3))) else (spec_PutRaw.j0 k t300 true l0_0 a1_0 a1_1 a1_2 a1_3)))
theorem spec_PutRaw.mono_l : ∀ k, (∀ y0 y1 y2 y3 y4 y5 y6, LeO (spec_PutRaw.j0 k y0 y1 y2 y3 y4 y5 y6) (spec_PutRaw.j0 (k + 1) y0 y1 y2 y3 y4 y5 y6))
  | 0 => fun _ _ _ _ _ _ _ r h => by simp [spec_PutRaw.j0] at h
  | k + 1 => by
    have ih0 := spec_PutRaw.mono_l k
    · intro y0 y1 y2 y3 y4 y5 y6
      unfold spec_PutRaw.j0
      repeat' first
      | (with_reducible exact ih0 _ _ _ _ _ _ _)
      | (with_reducible exact spec_DiskOk.mono _ _)
      | (with_reducible exact spec_l03At.mono _ _ _)
      | (with_reducible exact spec_l03Drop.mono _ _ _)
      | (with_reducible exact spec_l03Put.mono _ _ _ _)
      | (with_reducible exact spec_l03Text.mono _ _ _)
      | (with_reducible exact LeO.refl _)
      | (with_reducible exact LeO.none _)
      | (with_reducible refine LeO.ite ?_ ?_)
      | (with_reducible refine LeO.bind ?_ (fun _ => ?_))
      | exact ih0 _ _ _ _ _ _ _
      | exact spec_DiskOk.mono _ _
      | exact spec_l03At.mono _ _ _
      | exact spec_l03Drop.mono _ _ _
      | exact spec_l03Put.mono _ _ _ _
      | exact spec_l03Text.mono _ _ _
      | exact LeO.none _
      | refine LeO.ite ?_ ?_
      | refine LeO.bind ?_ (fun _ => ?_)
theorem spec_PutRaw.mono : ∀ a0 a1 a2 a3 a4 k, LeO (spec_PutRaw.f k a0 a1 a2 a3 a4) (spec_PutRaw.f (k + 1) a0 a1 a2 a3 a4) := by
  intro a0 a1 a2 a3 a4 k
  have ih0 := spec_PutRaw.mono_l k
  unfold spec_PutRaw.f
  repeat' first
      | (with_reducible exact ih0 _ _ _ _ _ _ _)
      | (with_reducible exact spec_DiskOk.mono _ _)
      | (with_reducible exact spec_l03At.mono _ _ _)
      | (with_reducible exact spec_l03Drop.mono _ _ _)
      | (with_reducible exact spec_l03Put.mono _ _ _ _)
      | (with_reducible exact spec_l03Text.mono _ _ _)
      | (with_reducible exact LeO.refl _)
      | (with_reducible exact LeO.none _)
      | (with_reducible refine LeO.ite ?_ ?_)
      | (with_reducible refine LeO.bind ?_ (fun _ => ?_))
      | exact ih0 _ _ _ _ _ _ _
      | exact spec_DiskOk.mono _ _
      | exact spec_l03At.mono _ _ _
      | exact spec_l03Drop.mono _ _ _
      | exact spec_l03Put.mono _ _ _ _
      | exact spec_l03Text.mono _ _ _
      | exact LeO.none _
      | refine LeO.ite ?_ ?_
      | refine LeO.bind ?_ (fun _ => ?_)
def spec_PutRaw.T9 : Bool × List (List Nat × List Nat) := (true, [([], []), ([], []), ([1], [1]), ([], []), ([], []), ([4], [4]), ([3, 5], [3, 5]), ([], []), ([7], [7]), ([6, 8], [6, 8]), ([2, 9], [2, 9]), ([0, 10, 6], [0, 10]), ([11, 11, 0, 1, 2, 3, 4, 5, 6, 7, 8, 9, 10, 11], [11])])
def spec_PutRaw.B9 : List Nat := [0, 0, 2, 0, 0, 16, 56, 0, 128, 504, 1022, 2047, 4095]
theorem spec_PutRaw.tab9 : rtab .any (opsOf Try.f36 9) = spec_PutRaw.T9 := by kernel_rfl
theorem spec_PutRaw.bits9 : waitsOk spec_PutRaw.T9.2 spec_PutRaw.B9 = true := by kernel_rfl
def spec_PutRaw.T12 : Bool × List (List Nat × List Nat) := (true, [([], []), ([], []), ([1], [1]), ([0, 2], [0, 2]), ([], []), ([4], [4]), ([], []), ([6], [6]), ([], []), ([7, 8], [7, 8]), ([9], [9]), ([10], [10]), ([5, 11], [5, 11]), ([3, 12, 3], [3, 12]), ([13, 13, 0, 1, 2, 3, 4, 5, 6, 7, 8, 9, 10, 11, 12, 13], [13])])
def spec_PutRaw.B12 : List Nat := [0, 0, 2, 7, 0, 16, 0, 64, 0, 448, 960, 1984, 4080, 8191, 16383]
theorem spec_PutRaw.tab12 : rtab .any (opsOf Try.f36 12) = spec_PutRaw.T12 := by kernel_rfl
theorem spec_PutRaw.bits12 : waitsOk spec_PutRaw.T12.2 spec_PutRaw.B12 = true := by kernel_rfl
set_option maxHeartbeats 8000000 in
set_option maxRecDepth 100000 in
theorem spec_PutRaw.calls (k : Nat) (A0_0 : Option Addr) (c0_0 : Nat) (l0_0 : List (S71)) (a1_0 : Int) (a1_1 : ByteArray) (a1_2 : ByteArray) (a1_3 : ByteArray) (r1 : List (S71)) (r2 : Bool) (w : World) (hr0_0 : Kd.C k71 w A0_0 l0_0.length l0_0) (hc0_0 : l0_0.length ≤ c0_0) (h : spec_PutRaw.f k l0_0 a1_0 a1_1 a1_2 a1_3 = some (r1, r2)) :
    Calls Try.prog 36 #[.agg #[.slice A0_0 l0_0.length c0_0], .agg #[.int .i64 a1_0, .string a1_1, .string a1_2, .string a1_3]] w fun e w' => ∃ v0_ : Value, e = .returned (.tuple #[.agg #[v0_], .bool r2]) ∧ Kd.R k71 71 w' w.heap.size (fun _ => True) v0_ r1 ∧ Below w.heap.size w w' := by
  have hu30 := Try.underlying30
  have hu65 := Try.underlying65
  have hu71 := Try.underlying71
  have HR0_0 := Aside0.mk hr0_0
  have HC0_0 := Aside0.mk hc0_0
  clear hr0_0 hc0_0
  have HB := Aside0.mk (Below.refl w.heap.size w)
  have H : ((spec_l03At.f k l0_0 a1_1).bind fun t300 => ((spec_DiskOk.f k l0_0).bind fun t301 => (if t301 = true then ((spec_l01In.f a1_0 1 4).bind fun t302 => (if t302 = true then (if t300 < 0 then (spec_PutRaw.j0 k t300 (decide (a1_0 ≥ 3)) l0_0 a1_0 a1_1 a1_2 a1_3) else (spec_PutRaw.j0 k t300 false l0_0 a1_0 a1_1 a1_2 a1_3)) else (spec_PutRaw.j0 k t300 true l0_0 a1_0 a1_1 a1_2 a1_3))) else (spec_PutRaw.j0 k t300 true l0_0 a1_0 a1_1 a1_2 a1_3)))) = some (r1, r2) := h
  clear h
  replace H := Option.bind_eq_some_iff.mp H
  obtain ⟨t300, A30, H⟩ := H
  replace H : ((spec_DiskOk.f k l0_0).bind fun t301 => (if t301 = true then ((spec_l01In.f a1_0 1 4).bind fun t302 => (if t302 = true then (if t300 < 0 then (spec_PutRaw.j0 k t300 (decide (a1_0 ≥ 3)) l0_0 a1_0 a1_1 a1_2 a1_3) else (spec_PutRaw.j0 k t300 false l0_0 a1_0 a1_1 a1_2 a1_3)) else (spec_PutRaw.j0 k t300 true l0_0 a1_0 a1_1 a1_2 a1_3))) else (spec_PutRaw.j0 k t300 true l0_0 a1_0 a1_1 a1_2 a1_3))) = some (r1, r2) := H
  have A3 := Aside0.mk A30
  clear A30
  have HC4 := Aside0.mk H
  clear H
  go_enter Try.func36, Try.ntmps36
  go_upto_region 2 with (first | ((with_reducible refine gate_dst (N := 2) rfl ?_); refine boxE (N := 2) (cs := #[.slice A0_0 l0_0.length c0_0]) (t := 30) (h := ?_); intro gb297 hg w5 hbox hb; have BK297 := Aside0.mk (hbox); have GW297 := Aside0.mk ((t4_ : w.heap.size ≤ gb297)); have GE297 := Aside0.mk ((t4_ : w.heap.size ≤ gb297)); replace HB := Aside0.mk (below_step t0_ hb); clear hb hbox hg) | ((with_reducible refine gate_dst (N := 3) rfl ?_); refine boxE (N := 3) (cs := #[.int .i64 a1_0, .string a1_1, .string a1_2, .string a1_3]) (t := 65) (h := ?_); intro gb298 hg w6 hbox hb; have BK298 := Aside0.mk (hbox); have GW298 := Aside0.mk ((by rw [hg]; exact (below_size (by repeat (first | (with_reducible first | exact HB.out | apply below_alloc | apply pw_below_drewN | apply below_drew1 | refine below_set ?_ GE297.out) | exact HB.out))) : w.heap.size ≤ gb298)); have GE298 := Aside0.mk ((by rw [hg]; exact (below_size (by repeat (first | (with_reducible first | exact HB.out | apply below_alloc | apply pw_below_drewN | apply below_drew1 | refine below_set ?_ GE297.out) | exact HB.out))) : w.heap.size ≤ gb298)); replace HB := Aside0.mk (below_step (by repeat (first | (with_reducible first | exact HB.out | apply below_alloc | apply pw_below_drewN | apply below_drew1 | refine below_set ?_ GE297.out) | exact HB.out)) hb); have NB297_298 := nbL BK297 hg; have NB298_297 := nbG BK297 hg; replace BK297 := bkN BK297 hb; clear hb hbox hg) | ((with_reducible refine gate_dst (N := 4) rfl ?_); refine boxE (N := 4) (cs := #[.slice none 0 0]) (t := 30) (h := ?_); intro gb299 hg w7 hbox hb; have BK299 := Aside0.mk (hbox); have GW299 := Aside0.mk ((by rw [hg]; exact (below_size (by repeat (first | (with_reducible first | exact HB.out | apply below_alloc | apply pw_below_drewN | apply below_drew1 | refine below_set ?_ GE297.out | refine below_set ?_ GE298.out) | exact HB.out))) : w.heap.size ≤ gb299)); have GE299 := Aside0.mk ((by rw [hg]; exact (below_size (by repeat (first | (with_reducible first | exact HB.out | apply below_alloc | apply pw_below_drewN | apply below_drew1 | refine below_set ?_ GE297.out | refine below_set ?_ GE298.out) | exact HB.out))) : w.heap.size ≤ gb299)); replace HB := Aside0.mk (below_step (by repeat (first | (with_reducible first | exact HB.out | apply below_alloc | apply pw_below_drewN | apply below_drew1 | refine below_set ?_ GE297.out | refine below_set ?_ GE298.out) | exact HB.out)) hb); have NB297_299 := nbL BK297 hg; have NB299_297 := nbG BK297 hg; replace BK297 := bkN BK297 hb; have NB298_299 := nbL BK298 hg; have NB299_298 := nbG BK298 hg; replace BK298 := bkN BK298 hb; clear hb hbox hg; have hnb8 := NB297_298.out; have hnc8 := NB298_297.out; have hnb9 := NB297_299.out; have hnc9 := NB299_297.out; have hcz10_0 := bc0 BK297; have hfz10_0 := bf BK297 0; have hnb11 := NB298_299.out; have hnc11 := NB299_298.out; have hcz12_0 := bc0 BK298; have hcz12_1 := bc1 BK298; have hcz12_2 := bc2 BK298; have hcz12_3 := bc3 BK298; have hfz12_0 := bf BK298 0; have hfz12_1 := bf BK298 1; have hfz12_2 := bf BK298 2; have hfz12_3 := bf BK298 3) | ((with_reducible refine gate_callee (f := 86) rfl ?_); refine goesL_ (some 11) rfl rfl Try.func86 (by kernel_rfl) rfl #[.agg #[.slice A0_0 l0_0.length c0_0], .string a1_1] rfl t1_ ?_; (with_reducible refine (spec_l03At.calls k _ _ l0_0 a1_1 t300 _ ?side1 ?side2 A3.out).mono ?_); (case side1 => exact cB HR0_0 HB); (case side2 => exact HC0_0.out); rintro e w13 ⟨rfl, hb⟩; refine ⟨_, rfl, ?_⟩; replace BK297 := bkN BK297 hb; replace BK298 := bkN BK298 hb; replace BK299 := bkN BK299 hb; replace HB := Aside0.mk (below_step t2_ hb); (try clear hb); (try clear hb2); (try clear hk); (try clear hi)))
  (try simp only [Act.put, List.setIfInBounds_toArray, List.set_cons_zero, List.set_cons_succ])
  go_cut [29] (fun v29 wc => ∃ (kq : Nat) (x29_3 : Bool), v29 = .bool x29_3 ∧ Aside0 (spec_PutRaw.j0 kq t300 x29_3 l0_0 a1_0 a1_1 a1_2 a1_3 = some (r1, r2)) ∧ Aside0 (kq ≤ k) ∧ Aside0 (wc.heap[gb297]? = some (.cells #[(.slice A0_0 l0_0.length c0_0)] 30 (0, 0))) ∧ Aside0 (wc.heap[gb298]? = some (.cells #[.int .i64 a1_0, .string a1_1, .string a1_2, .string a1_3] 65 (0, 0))) ∧ Aside0 (wc.heap[gb299]? = some (.cells #[(.slice none 0 0)] 30 (0, 0))) ∧ Aside0 (Below w.heap.size w wc))
  case first =>
    have H := HC4.out
    clear HC4
    replace H := Option.bind_eq_some_iff.mp H
    obtain ⟨t301, A140, H⟩ := H
    replace H : (if t301 = true then ((spec_l01In.f a1_0 1 4).bind fun t302 => (if t302 = true then (if t300 < 0 then (spec_PutRaw.j0 k t300 (decide (a1_0 ≥ 3)) l0_0 a1_0 a1_1 a1_2 a1_3) else (spec_PutRaw.j0 k t300 false l0_0 a1_0 a1_1 a1_2 a1_3)) else (spec_PutRaw.j0 k t300 true l0_0 a1_0 a1_1 a1_2 a1_3))) else (spec_PutRaw.j0 k t300 true l0_0 a1_0 a1_1 a1_2 a1_3)) = some (r1, r2) := H
    have A14 := Aside0.mk A140
    clear A140
    by_cases c15 : t301 = true
    · subst c15
      have H1 : ((spec_l01In.f a1_0 1 4).bind fun t302 => (if t302 = true then (if t300 < 0 then (spec_PutRaw.j0 k t300 (decide (a1_0 ≥ 3)) l0_0 a1_0 a1_1 a1_2 a1_3) else (spec_PutRaw.j0 k t300 false l0_0 a1_0 a1_1 a1_2 a1_3)) else (spec_PutRaw.j0 k t300 true l0_0 a1_0 a1_1 a1_2 a1_3))) = some (r1, r2) := by rw [if_pos rfl] at H; exact H
      clear H
      have H := H1
      clear H1
      replace H := Option.bind_eq_some_iff.mp H
      obtain ⟨t302, A160, H⟩ := H
      replace H : (if t302 = true then (if t300 < 0 then (spec_PutRaw.j0 k t300 (decide (a1_0 ≥ 3)) l0_0 a1_0 a1_1 a1_2 a1_3) else (spec_PutRaw.j0 k t300 false l0_0 a1_0 a1_1 a1_2 a1_3)) else (spec_PutRaw.j0 k t300 true l0_0 a1_0 a1_1 a1_2 a1_3)) = some (r1, r2) := H
      have A16 := Aside0.mk A160
      clear A160
      by_cases c17 : t302 = true
      · subst c17
        have H1 : (if t300 < 0 then (spec_PutRaw.j0 k t300 (decide (a1_0 ≥ 3)) l0_0 a1_0 a1_1 a1_2 a1_3) else (spec_PutRaw.j0 k t300 false l0_0 a1_0 a1_1 a1_2 a1_3)) = some (r1, r2) := by rw [if_pos rfl] at H; exact H
        clear H
        have H := H1
        clear H1
        by_cases c18 : t300 < 0
        · rw [if_pos c18] at H
          have c18b0 : decide (t300 < 0) = true := decide_eq_true c18
          clear c18
          (first | rw [c18b0] | (simp only [i64_w, i32_w]; rw [c18b0]) | skip)
          have H' := Aside0.mk H
          clear H
          have hnb19 := NB297_298.out
          have hnc19 := NB298_297.out
          have hnb20 := NB297_299.out
          have hnc20 := NB299_297.out
          have hcz21_0 := bc0 BK297
          have hfz21_0 := bf BK297 0
          go_wp2_with (first | ((with_reducible refine gate_callee (f := 56) rfl ?_); refine goesL_ (some 13) rfl rfl Try.func56 (by kernel_rfl) rfl #[.agg #[.slice A0_0 l0_0.length c0_0]] rfl t1_ ?_; (with_reducible refine (spec_DiskOk.calls k _ _ l0_0 true _ ?side1 ?side2 A14.out).mono ?_); (case side1 => exact cB HR0_0 HB); (case side2 => exact HC0_0.out); rintro e w22 ⟨rfl, hb⟩; refine ⟨_, rfl, ?_⟩; replace BK297 := bkN BK297 hb; replace BK298 := bkN BK298 hb; replace BK299 := bkN BK299 hb; replace HB := Aside0.mk (below_step t2_ hb); (try clear hb); (try clear hb2); (try clear hk); (try clear hi); have hnb23 := NB298_299.out; have hnc23 := NB299_298.out; have hcz24_0 := bc0 BK298; have hcz24_1 := bc1 BK298; have hcz24_2 := bc2 BK298; have hcz24_3 := bc3 BK298; have hfz24_0 := bf BK298 0; have hfz24_1 := bf BK298 1; have hfz24_2 := bf BK298 2; have hfz24_3 := bf BK298 3) | (go_at_call 57; (with_reducible refine (spec_l01In.calls a1_0 1 4 true _ A16.out).mono ?_); rintro e w' ⟨rfl, ⟨nd, rfl⟩⟩))
          go_meet
          case rel => exact ⟨_, (decide (a1_0 ≥ 3)), t19_, H', ⟨by first | omega | exact Nat.le_refl _⟩, ⟨by (with_reducible repeat (first | refine blk_drewN ?_ _ | refine blk_drew ?_ | refine blk_alloc ?_ _)); exact BK297.out⟩, ⟨by (with_reducible repeat (first | refine blk_drewN ?_ _ | refine blk_drew ?_ | refine blk_alloc ?_ _)); exact BK298.out⟩, ⟨by (with_reducible repeat (first | refine blk_drewN ?_ _ | refine blk_drew ?_ | refine blk_alloc ?_ _)); exact BK299.out⟩, ⟨t2_⟩⟩
        · rw [if_neg c18] at H
          have c18b0 : decide (t300 < 0) = false := decide_eq_false c18
          clear c18
          (first | rw [c18b0] | (simp only [i64_w, i32_w]; rw [c18b0]) | skip)
          have H' := Aside0.mk H
          clear H
          have hnb25 := NB297_298.out
          have hnc25 := NB298_297.out
          have hnb26 := NB297_299.out
          have hnc26 := NB299_297.out
          have hcz27_0 := bc0 BK297
          have hfz27_0 := bf BK297 0
          go_wp2_with (first | ((with_reducible refine gate_callee (f := 56) rfl ?_); refine goesL_ (some 13) rfl rfl Try.func56 (by kernel_rfl) rfl #[.agg #[.slice A0_0 l0_0.length c0_0]] rfl t1_ ?_; (with_reducible refine (spec_DiskOk.calls k _ _ l0_0 true _ ?side1 ?side2 A14.out).mono ?_); (case side1 => exact cB HR0_0 HB); (case side2 => exact HC0_0.out); rintro e w28 ⟨rfl, hb⟩; refine ⟨_, rfl, ?_⟩; replace BK297 := bkN BK297 hb; replace BK298 := bkN BK298 hb; replace BK299 := bkN BK299 hb; replace HB := Aside0.mk (below_step t2_ hb); (try clear hb); (try clear hb2); (try clear hk); (try clear hi); have hnb29 := NB298_299.out; have hnc29 := NB299_298.out; have hcz30_0 := bc0 BK298; have hcz30_1 := bc1 BK298; have hcz30_2 := bc2 BK298; have hcz30_3 := bc3 BK298; have hfz30_0 := bf BK298 0; have hfz30_1 := bf BK298 1; have hfz30_2 := bf BK298 2; have hfz30_3 := bf BK298 3) | (go_at_call 57; (with_reducible refine (spec_l01In.calls a1_0 1 4 true _ A16.out).mono ?_); rintro e w' ⟨rfl, ⟨nd, rfl⟩⟩))
          go_meet
          case rel => exact ⟨_, (false), t19_, H', ⟨by first | omega | exact Nat.le_refl _⟩, ⟨by (with_reducible repeat (first | refine blk_drewN ?_ _ | refine blk_drew ?_ | refine blk_alloc ?_ _)); exact BK297.out⟩, ⟨by (with_reducible repeat (first | refine blk_drewN ?_ _ | refine blk_drew ?_ | refine blk_alloc ?_ _)); exact BK298.out⟩, ⟨by (with_reducible repeat (first | refine blk_drewN ?_ _ | refine blk_drew ?_ | refine blk_alloc ?_ _)); exact BK299.out⟩, ⟨t2_⟩⟩
      · replace c17 := Bool.eq_false_iff.mpr c17
        subst c17
        have H1 : (spec_PutRaw.j0 k t300 true l0_0 a1_0 a1_1 a1_2 a1_3) = some (r1, r2) := by rw [if_neg (show ¬ (false = true) by decide)] at H; exact H
        clear H
        have H := H1
        clear H1
        have H' := Aside0.mk H
        clear H
        have hnb31 := NB297_298.out
        have hnc31 := NB298_297.out
        have hnb32 := NB297_299.out
        have hnc32 := NB299_297.out
        have hcz33_0 := bc0 BK297
        have hfz33_0 := bf BK297 0
        go_wp2_with (first | ((with_reducible refine gate_callee (f := 56) rfl ?_); refine goesL_ (some 13) rfl rfl Try.func56 (by kernel_rfl) rfl #[.agg #[.slice A0_0 l0_0.length c0_0]] rfl t1_ ?_; (with_reducible refine (spec_DiskOk.calls k _ _ l0_0 true _ ?side1 ?side2 A14.out).mono ?_); (case side1 => exact cB HR0_0 HB); (case side2 => exact HC0_0.out); rintro e w34 ⟨rfl, hb⟩; refine ⟨_, rfl, ?_⟩; replace BK297 := bkN BK297 hb; replace BK298 := bkN BK298 hb; replace BK299 := bkN BK299 hb; replace HB := Aside0.mk (below_step t2_ hb); (try clear hb); (try clear hb2); (try clear hk); (try clear hi); have hnb35 := NB298_299.out; have hnc35 := NB299_298.out; have hcz36_0 := bc0 BK298; have hcz36_1 := bc1 BK298; have hcz36_2 := bc2 BK298; have hcz36_3 := bc3 BK298; have hfz36_0 := bf BK298 0; have hfz36_1 := bf BK298 1; have hfz36_2 := bf BK298 2; have hfz36_3 := bf BK298 3) | (go_at_call 57; (with_reducible refine (spec_l01In.calls a1_0 1 4 false _ A16.out).mono ?_); rintro e w' ⟨rfl, ⟨nd, rfl⟩⟩))
        go_meet
        case rel => exact ⟨_, (true), t19_, H', ⟨by first | omega | exact Nat.le_refl _⟩, ⟨by (with_reducible repeat (first | refine blk_drewN ?_ _ | refine blk_drew ?_ | refine blk_alloc ?_ _)); exact BK297.out⟩, ⟨by (with_reducible repeat (first | refine blk_drewN ?_ _ | refine blk_drew ?_ | refine blk_alloc ?_ _)); exact BK298.out⟩, ⟨by (with_reducible repeat (first | refine blk_drewN ?_ _ | refine blk_drew ?_ | refine blk_alloc ?_ _)); exact BK299.out⟩, ⟨t2_⟩⟩
    · replace c15 := Bool.eq_false_iff.mpr c15
      subst c15
      have H1 : (spec_PutRaw.j0 k t300 true l0_0 a1_0 a1_1 a1_2 a1_3) = some (r1, r2) := by rw [if_neg (show ¬ (false = true) by decide)] at H; exact H
      clear H
      have H := H1
      clear H1
      have H' := Aside0.mk H
      clear H
      have hnb37 := NB297_298.out
      have hnc37 := NB298_297.out
      have hnb38 := NB297_299.out
      have hnc38 := NB299_297.out
      have hcz39_0 := bc0 BK297
      have hfz39_0 := bf BK297 0
      go_wp2_with (first | ((with_reducible refine gate_callee (f := 56) rfl ?_); refine goesL_ (some 13) rfl rfl Try.func56 (by kernel_rfl) rfl #[.agg #[.slice A0_0 l0_0.length c0_0]] rfl t1_ ?_; (with_reducible refine (spec_DiskOk.calls k _ _ l0_0 false _ ?side1 ?side2 A14.out).mono ?_); (case side1 => exact cB HR0_0 HB); (case side2 => exact HC0_0.out); rintro e w40 ⟨rfl, hb⟩; refine ⟨_, rfl, ?_⟩; replace BK297 := bkN BK297 hb; replace BK298 := bkN BK298 hb; replace BK299 := bkN BK299 hb; replace HB := Aside0.mk (below_step t2_ hb); (try clear hb); (try clear hb2); (try clear hk); (try clear hi)))
      go_meet
      case rel => exact ⟨_, (true), t19_, H', ⟨by first | omega | exact Nat.le_refl _⟩, ⟨by (with_reducible repeat (first | refine blk_drewN ?_ _ | refine blk_drew ?_ | refine blk_alloc ?_ _)); exact BK297.out⟩, ⟨by (with_reducible repeat (first | refine blk_drewN ?_ _ | refine blk_drew ?_ | refine blk_alloc ?_ _)); exact BK298.out⟩, ⟨by (with_reducible repeat (first | refine blk_drewN ?_ _ | refine blk_drew ?_ | refine blk_alloc ?_ _)); exact BK299.out⟩, ⟨t2_⟩⟩
  case rest =>
    clear HC4
    try clear c1
    try clear c2
    try clear p2
    try clear c3
    try clear c5
    try clear c8
    try clear c9
    try clear c11
    try clear c15
    try clear c17
    try clear c18
    try clear c18b0
    try clear c19
    try clear c20
    try clear c23
    try clear c25
    try clear c26
    try clear c29
    try clear c31
    try clear c32
    try clear c35
    try clear c36
    try clear c37
    try clear c38
    try clear hcz10_0
    try clear hcz12_0
    try clear hcz12_1
    try clear hcz12_2
    try clear hcz12_3
    try clear hcz21_0
    try clear hcz24_0
    try clear hcz24_1
    try clear hcz24_2
    try clear hcz24_3
    try clear hcz27_0
    try clear hcz30_0
    try clear hcz30_1
    try clear hcz30_2
    try clear hcz30_3
    try clear hcz33_0
    try clear hcz36_0
    try clear hcz36_1
    try clear hcz36_2
    try clear hcz36_3
    try clear hcz39_0
    try clear hfz10_0
    try clear hfz12_0
    try clear hfz12_1
    try clear hfz12_2
    try clear hfz12_3
    try clear hfz21_0
    try clear hfz24_0
    try clear hfz24_1
    try clear hfz24_2
    try clear hfz24_3
    try clear hfz27_0
    try clear hfz30_0
    try clear hfz30_1
    try clear hfz30_2
    try clear hfz30_3
    try clear hfz33_0
    try clear hfz36_0
    try clear hfz36_1
    try clear hfz36_2
    try clear hfz36_3
    try clear hfz39_0
    obtain ⟨kq, x29_3, rfl, HA, HJ3, BK297, BK298, BK299, HB⟩ := hcut
    cases kq with
    | zero => exact absurd HA.out (by simp [spec_PutRaw.j0])
    | succ kj3 =>
      have H := HA.out
      clear HA
      simp only [spec_PutRaw.j0] at H
      by_cases c41 : x29_3 = true
      · subst c41
        have H1 : (some (([] : List (S71)), false)) = some (r1, r2) := by rw [if_pos rfl] at H; exact H
        clear H
        have H := H1
        clear H1
        simp only [Option.some.injEq, Prod.mk.injEq] at H
        obtain ⟨rfl, rfl⟩ := H
        have hnb42 := NB299_297.out
        have hnc42 := NB297_299.out
        have hnb43 := NB299_298.out
        have hnc43 := NB298_299.out
        have hcz44_0 := bc0 BK299
        have hfz44_0 := bf BK299 0
        go_wp2
        refine bodyPost_ret (results_ct rfl _ _ gb299 30 #[.slice none 0 0] (0, 0) _ rfl (by (with_reducible repeat (first | refine blk_drewN ?_ _ | refine blk_drew ?_ | refine blk_alloc ?_ _)); refine blk_put (cs := #[.slice none 0 0]) ?_ 0 _ rfl; (with_reducible repeat (first | refine blk_drewN ?_ _ | refine blk_drew ?_ | refine blk_alloc ?_ _)); exact BK299.out) Try.underlying30 rfl (by kernel_rfl)) rfl ?_
        exact ⟨_, by first | rfl | (simp [errW_none, errW_some] <;> rfl) | (simp [*, errW_none, errW_some] <;> rfl), by first | exact Kd.R_nil _ _ _ _ _ | exact Kd.N_nil _ _ _ _ _ | exact Kd.V_nil _ _ _ _ _ | exact Kd.Q_nil _ _ _ _ _ | exact Kd.S_nil _ _ _ _ _, t2_⟩
      · replace c41 := Bool.eq_false_iff.mpr c41
        subst c41
        have H1 : ((some (([] : List (S71)) : List (S71))).bind fun y303 => (if y303.length + l0_0.length < 4398046511104 then ((some (y303 ++ l0_0 : List (S71))).bind fun y306 => (if a1_0 = 1 then ((spec_l03Put.f kj3 l0_0 a1_1 a1_3).bind fun t310 => ((spec_DiskOk.f kj3 t310).bind fun t313 => (if t313 = true then (some (t310, true)) else (some (([] : List (S71)), false))))) else (if a1_0 = 2 then ((spec_l03Text.f kj3 l0_0 a1_1).bind fun t314 => (if t314.size + a1_3.size ≤ 9223372036854775807 then ((spec_l03Put.f kj3 l0_0 a1_1 (t314 ++ a1_3)).bind fun t315 => ((spec_DiskOk.f kj3 t315).bind fun t318 => (if t318 = true then (some (t315, true)) else (some (([] : List (S71)), false))))) else (none))) else (if a1_0 = 3 then (if a1_2.toList = a1_1.toList then ((spec_DiskOk.f kj3 y306).bind fun t319 => (if t319 = true then (some (y306, true)) else (some (([] : List (S71)), false)))) else ((spec_l03Drop.f kj3 l0_0 a1_1).bind fun t320 => (if 0 ≤ t300 then (if t300 < (l0_0.length : Int) then ((spec_l03Put.f kj3 t320 a1_2 ((rd_T71 l0_0 t300).f1)).bind fun t324 => ((spec_DiskOk.f kj3 t324).bind fun t327 => (if t327 = true then (some (t324, true)) else (some (([] : List (S71)), false))))) else (none)) else (none)))) else (if a1_0 = 4 then ((spec_l03Drop.f kj3 l0_0 a1_1).bind fun t328 => ((spec_DiskOk.f kj3 t328).bind fun t331 => (if t331 = true then (some (t328, true)) else (some (([] : List (S71)), false))))) else ((spec_DiskOk.f kj3 y306).bind fun t332 => (if t332 = true then (some (y306, true)) else (some (([] : List (S71)), false))))))))) else (none))) = some (r1, r2) := by rw [if_neg (show ¬ (false = true) by decide)] at H; exact H
        clear H
        have H := H1
        clear H1
        obtain ⟨y303, hy303⟩ : ∃ y_ : List (S71), y_ = (([] : List (S71))) := ⟨_, rfl⟩
        replace H : (if y303.length + l0_0.length < 4398046511104 then ((some (y303 ++ l0_0 : List (S71))).bind fun y306 => (if a1_0 = 1 then ((spec_l03Put.f kj3 l0_0 a1_1 a1_3).bind fun t310 => ((spec_DiskOk.f kj3 t310).bind fun t313 => (if t313 = true then (some (t310, true)) else (some (([] : List (S71)), false))))) else (if a1_0 = 2 then ((spec_l03Text.f kj3 l0_0 a1_1).bind fun t314 => (if t314.size + a1_3.size ≤ 9223372036854775807 then ((spec_l03Put.f kj3 l0_0 a1_1 (t314 ++ a1_3)).bind fun t315 => ((spec_DiskOk.f kj3 t315).bind fun t318 => (if t318 = true then (some (t315, true)) else (some (([] : List (S71)), false))))) else (none))) else (if a1_0 = 3 then (if a1_2.toList = a1_1.toList then ((spec_DiskOk.f kj3 y306).bind fun t319 => (if t319 = true then (some (y306, true)) else (some (([] : List (S71)), false)))) else ((spec_l03Drop.f kj3 l0_0 a1_1).bind fun t320 => (if 0 ≤ t300 then (if t300 < (l0_0.length : Int) then ((spec_l03Put.f kj3 t320 a1_2 ((rd_T71 l0_0 t300).f1)).bind fun t324 => ((spec_DiskOk.f kj3 t324).bind fun t327 => (if t327 = true then (some (t324, true)) else (some (([] : List (S71)), false))))) else (none)) else (none)))) else (if a1_0 = 4 then ((spec_l03Drop.f kj3 l0_0 a1_1).bind fun t328 => ((spec_DiskOk.f kj3 t328).bind fun t331 => (if t331 = true then (some (t328, true)) else (some (([] : List (S71)), false))))) else ((spec_DiskOk.f kj3 y306).bind fun t332 => (if t332 = true then (some (y306, true)) else (some (([] : List (S71)), false))))))))) else (none)) = some (r1, r2) := by first | (rw [hy303]; with_reducible exact H) | (have H2_ := (Option.bind_some _ _).symm.trans H; rw [hy303]; with_reducible exact H2_) | (have H2_ := (Option.bind_some _ _).symm.trans H; with_reducible exact H2_) | with_reducible exact H | (rw [hy303]; exact H) | exact H
        have Ny303 := Aside0.mk hy303
        clear hy303
        by_cases c45 : y303.length + l0_0.length < 4398046511104
        · rw [if_pos c45] at H
          have LMc45 := Aside0.mk c45
          clear c45
          obtain ⟨y306, hy306⟩ : ∃ y_ : List (S71), y_ = (y303 ++ l0_0) := ⟨_, rfl⟩
          replace H : (if a1_0 = 1 then ((spec_l03Put.f kj3 l0_0 a1_1 a1_3).bind fun t310 => ((spec_DiskOk.f kj3 t310).bind fun t313 => (if t313 = true then (some (t310, true)) else (some (([] : List (S71)), false))))) else (if a1_0 = 2 then ((spec_l03Text.f kj3 l0_0 a1_1).bind fun t314 => (if t314.size + a1_3.size ≤ 9223372036854775807 then ((spec_l03Put.f kj3 l0_0 a1_1 (t314 ++ a1_3)).bind fun t315 => ((spec_DiskOk.f kj3 t315).bind fun t318 => (if t318 = true then (some (t315, true)) else (some (([] : List (S71)), false))))) else (none))) else (if a1_0 = 3 then (if a1_2.toList = a1_1.toList then ((spec_DiskOk.f kj3 y306).bind fun t319 => (if t319 = true then (some (y306, true)) else (some (([] : List (S71)), false)))) else ((spec_l03Drop.f kj3 l0_0 a1_1).bind fun t320 => (if 0 ≤ t300 then (if t300 < (l0_0.length : Int) then ((spec_l03Put.f kj3 t320 a1_2 ((rd_T71 l0_0 t300).f1)).bind fun t324 => ((spec_DiskOk.f kj3 t324).bind fun t327 => (if t327 = true then (some (t324, true)) else (some (([] : List (S71)), false))))) else (none)) else (none)))) else (if a1_0 = 4 then ((spec_l03Drop.f kj3 l0_0 a1_1).bind fun t328 => ((spec_DiskOk.f kj3 t328).bind fun t331 => (if t331 = true then (some (t328, true)) else (some (([] : List (S71)), false))))) else ((spec_DiskOk.f kj3 y306).bind fun t332 => (if t332 = true then (some (y306, true)) else (some (([] : List (S71)), false)))))))) = some (r1, r2) := by first | (rw [hy306]; with_reducible exact H) | (have H2_ := (Option.bind_some _ _).symm.trans H; rw [hy306]; with_reducible exact H2_) | (have H2_ := (Option.bind_some _ _).symm.trans H; with_reducible exact H2_) | with_reducible exact H | (rw [hy306]; exact H) | exact H
          have Ny306 := Aside0.mk hy306
          clear hy306
          by_cases c46 : a1_0 = 1
          · rw [if_pos c46] at H
            have c46b0 : (a1_0 == 1) = true := beq_iff_eq.mpr c46
            have c46b1 : (a1_0 != 1) = false := bne_eq_false_iff_eq.mpr c46
            clear c46
            replace H := Option.bind_eq_some_iff.mp H
            obtain ⟨t310, A470, H⟩ := H
            replace H : ((spec_DiskOk.f kj3 t310).bind fun t313 => (if t313 = true then (some (t310, true)) else (some (([] : List (S71)), false)))) = some (r1, r2) := H
            have A47 := Aside0.mk A470
            clear A470
            replace H := Option.bind_eq_some_iff.mp H
            obtain ⟨t313, A480, H⟩ := H
            replace H : (if t313 = true then (some (t310, true)) else (some (([] : List (S71)), false))) = some (r1, r2) := H
            have A48 := Aside0.mk A480
            clear A480
            by_cases c49 : t313 = true
            · subst c49
              have H1 : (some (t310, true)) = some (r1, r2) := by rw [if_pos rfl] at H; exact H
              clear H
              have H := H1
              clear H1
              simp only [Option.some.injEq, Prod.mk.injEq] at H
              obtain ⟨rfl, rfl⟩ := H
              go_wp2_with (first | ((with_reducible refine gate_dst (N := 31) rfl ?_); refine Kd.R_lit k71 _ 71 ?hg (N := 31) ?hd (xs := ([] : List (S71))) (inner := []) (ok := fun _ => True) (okp := fun _ => True) ?hr ?hp (fun _ hk => hk) trivial (Below.refl _ _) (Nat.le_refl _) (by simp) ?_; (case hd => rfl); (case hg => rfl); (case hr => first | (go_simp; done) | (go_simp; rfl)); (case hp => exact (Reps.none _ _)); intro v304 w50 ho51 hb hg_ hnew_; clear hg_ hnew_; (first | rw [← Ny303.out] at ho51 | (simp only [Int.reduceToNat] at ho51; rw [← Ny303.out] at ho51)); have HO305 := Aside0.mk (Kd.R_lower ho51 (below_size t2_)); replace BK297 := bkN BK297 hb; replace BK298 := bkN BK298 hb; replace BK299 := bkN BK299 hb; replace HB := Aside0.mk (below_step t2_ hb); clear hb ho51; have hnb52 := NB297_298.out; have hnc52 := NB298_297.out; have hnb53 := NB297_299.out; have hnc53 := NB299_297.out; have hcz54_0 := bc0 BK297; have hfz54_0 := bf BK297 0) | ((with_reducible refine gate_builtin (b := .append) (xs := #[.tmp 31, .tmp 33]) rfl ?_); at_builtin; refine Kd.R_append_rows k71 (w0 := w) w.heap.size rfl (.tmp 31) (.tmp 33) 28 71 (.agg #[(.string ⟨#[]⟩), (.string ⟨#[]⟩)]) 32 rfl Try.underlying28 info71 rfl (by decide) (by omega) v304 y303 l0_0 _ _ _ (fun _ => True) (fun _ => False) rfl rfl ?aO ?aR (fun _ _ h => h) (fun _ h => h.elim) ?aF ?aB ?aS ?aL ?_; (case aR => exact cB HR0_0 HB); (case aB => exact t2_); (case aF => exact (fun _ _ => trivial)); (case aO => exact t46_); (case aS => exact (below_size t2_)); (case aL => have := LMc45.out; omega); intro v307 w55 ho hb hg hat; rw [← Ny306.out] at ho; have n0_ := Aside0.mk (blk_grown (g := gb297) (o := .cells #[.slice A0_0 l0_0.length c0_0] 30 (0, 0)) t37_ hg (Kd.R_ne HO305.out BK297.out (by decide))); have n1_ := Aside0.mk (blk_grown (g := gb298) (o := .cells #[.int .i64 a1_0, .string a1_1, .string a1_2, .string a1_3] 65 (0, 0)) t38_ hg (Kd.R_ne HO305.out BK298.out (by decide))); have n2_ := Aside0.mk (blk_grown (g := gb299) (o := .cells #[.slice none 0 0] 30 (0, 0)) t39_ hg (Kd.R_ne HO305.out BK299.out (by decide))); have n3_ := Aside0.mk (hb); have n4_ := Aside0.mk (ho); clear BK297; clear BK298; clear BK299; clear HB; clear HO305; have BK297 := n0_; have BK298 := n1_; have BK299 := n2_; have HB := n3_; have HO308 := n4_; clear n0_ n1_ n2_ n3_ n4_; clear ho hb hg hat; obtain ⟨Ao56, co56, eo56⟩ := Kd.R_slice HO308.out; subst eo56) | ((with_reducible refine gate_dst (N := 7) rfl ?_); refine boxE (N := 7) (cs := #[.slice none 0 0]) (t := 30) (h := ?_); intro gb309 hg w57 hbox hb; replace HO308 := Aside0.mk (Kd.R_below t20_ hb); have BK309 := Aside0.mk (hbox); have GW309 := Aside0.mk ((t14_ : w.heap.size ≤ gb309)); have GE309 := Aside0.mk ((t14_ : w.heap.size ≤ gb309)); replace HB := Aside0.mk (below_step t2_ hb); have NB297_309 := nbL BK297 hg; have NB309_297 := nbG BK297 hg; replace BK297 := bkN BK297 hb; have NB298_309 := nbL BK298 hg; have NB309_298 := nbG BK298 hg; replace BK298 := bkN BK298 hb; have NB299_309 := nbL BK299 hg; have NB309_299 := nbG BK299 hg; replace BK299 := bkN BK299 hb; clear hb hbox hg; have hnb58 := NB309_297.out; have hnc58 := NB297_309.out; have hnb59 := NB309_298.out; have hnc59 := NB298_309.out; have hnb60 := NB309_299.out; have hnc60 := NB299_309.out; have hcz61_0 := bc0 BK309; have hfz61_0 := bf BK309 0; have hnb62 := NB298_299.out; have hnc62 := NB299_298.out; have hcz63_0 := bc0 BK298; have hcz63_1 := bc1 BK298; have hcz63_2 := bc2 BK298; have hcz63_3 := bc3 BK298; have hfz63_0 := bf BK298 0; have hfz63_1 := bf BK298 1; have hfz63_2 := bf BK298 2; have hfz63_3 := bf BK298 3; have hcz64_0 := bc0 BK297; have hfz64_0 := bf BK297 0) | ((with_reducible refine gate_callee (f := 79) rfl ?_); refine goesL_ (some 46) rfl rfl Try.func79 (by kernel_rfl) rfl #[.agg #[.slice A0_0 l0_0.length c0_0], .agg #[.string a1_1, .string a1_3]] rfl t1_ ?_; (with_reducible refine (spec_l03Put.calls kj3 _ _ l0_0 a1_1 a1_3 t310 _ ?side1 ?side2 A47.out).mono ?_); (case side1 => exact Kd.C_below HR0_0.out t6_); (case side2 => exact HC0_0.out); rintro e w65 ⟨v311, rfl, ho0, hb⟩; refine ⟨_, rfl, ?_⟩; have HO312 := Aside0.mk (Kd.R_lower (Kd.R_new' ho0 (Kd.R_lt (by (with_reducible repeat (first | apply Kd.R_alloc | apply Kd.R_drewN | apply Kd.R_drew)); exact (Kd.R_mono (Kd.R_far (p := ⟨gb309, 0, none⟩) (Kd.R_types HO308.out BK309.out (by decide)) (fun _ hk => hk.2) (.slice Ao56 y306.length co56)) (fun _ h_ => h_.1))))) (below_size t6_)); replace HO308 := Aside0.mk (Kd.R_elder' (by (with_reducible repeat (first | apply Kd.R_alloc | apply Kd.R_drewN | apply Kd.R_drew)); exact (Kd.R_mono (Kd.R_far (p := ⟨gb309, 0, none⟩) (Kd.R_types HO308.out BK309.out (by decide)) (fun _ hk => hk.2) (.slice Ao56 y306.length co56)) (fun _ h_ => h_.1))) (Kd.R_base ho0) hb); replace BK297 := bkF BK297 NB297_309 hb; replace BK298 := bkF BK298 NB298_309 hb; replace BK299 := bkF BK299 NB299_309 hb; replace BK309 := Aside0.mk (blk_below (g := gb309) (o := .cells #[.slice Ao56 y306.length co56] 30 (0, 0)) (by (with_reducible repeat (first | refine blk_drewN ?_ _ | refine blk_drew ?_ | refine blk_alloc ?_ _)); refine blk_put (cs := #[.slice none 0 0]) ?_ 0 _ rfl; (with_reducible repeat (first | refine blk_drewN ?_ _ | refine blk_drew ?_ | refine blk_alloc ?_ _)); exact BK309.out) hb); replace HB := Aside0.mk (below_step t6_ hb); (try clear hb); (try clear hb2); (try clear hk); (try clear hi); (try clear ho0); obtain ⟨Ao66, co66, eo66⟩ := Kd.R_slice HO312.out; subst eo66; have hcz67_0 := bc0 BK309; have hfz67_0 := bf BK309 0) | ((with_reducible refine gate_callee (f := 56) rfl ?_); refine goesL_ (some 89) rfl rfl Try.func56 (by kernel_rfl) rfl #[.agg #[.slice Ao66 t310.length co66]] rfl t1_ ?_; (with_reducible refine (spec_DiskOk.calls kj3 _ _ t310 true _ ?side1 ?side2 A48.out).mono ?_); (case side1 => refine (Kd.R_reads' (e := 71) (base := w.heap.size) (ok := fun k_ => (True ∧ some k_ ≠ (.slice Ao56 y306.length co56 : Value).ownBlock)) (n := t310.length) (c := co66) ?_).2.2; exact (by (with_reducible repeat (first | apply Kd.R_alloc | apply Kd.R_drewN | apply Kd.R_drew)); exact (Kd.R_mono (Kd.R_far (p := ⟨gb309, 0, none⟩) (Kd.R_types HO312.out BK309.out (by decide)) (fun _ hk => hk.2) (.slice Ao66 t310.length co66)) (fun _ h_ => h_.1)))); (case side2 => exact (Kd.R_reads' HO312.out).2.1); rintro e w68 ⟨rfl, hb⟩; refine ⟨_, rfl, ?_⟩; replace HO308 := Aside0.mk (Kd.R_below (by (with_reducible repeat (first | apply Kd.R_alloc | apply Kd.R_drewN | apply Kd.R_drew)); exact (Kd.R_mono (Kd.R_far (p := ⟨gb309, 0, none⟩) (Kd.R_types HO308.out BK309.out (by decide)) (fun _ hk => hk.2) (.slice Ao66 t310.length co66)) (fun _ h_ => h_.1))) hb); replace HO312 := Aside0.mk (Kd.R_below (by (with_reducible repeat (first | apply Kd.R_alloc | apply Kd.R_drewN | apply Kd.R_drew)); exact (Kd.R_mono (Kd.R_far (p := ⟨gb309, 0, none⟩) (Kd.R_types HO312.out BK309.out (by decide)) (fun _ hk => hk.2) (.slice Ao66 t310.length co66)) (fun _ h_ => h_.1))) hb); replace BK297 := bkF BK297 NB297_309 hb; replace BK298 := bkF BK298 NB298_309 hb; replace BK299 := bkF BK299 NB299_309 hb; replace BK309 := Aside0.mk (blk_below (g := gb309) (o := .cells #[.slice Ao66 t310.length co66] 30 (0, 0)) (by (with_reducible repeat (first | refine blk_drewN ?_ _ | refine blk_drew ?_ | refine blk_alloc ?_ _)); refine blk_put (cs := #[.slice Ao56 y306.length co56]) ?_ 0 _ rfl; (with_reducible repeat (first | refine blk_drewN ?_ _ | refine blk_drew ?_ | refine blk_alloc ?_ _)); exact BK309.out) hb); replace HB := Aside0.mk (below_step t6_ hb); (try clear hb); (try clear hb2); (try clear hk); (try clear hi); have hcz69_0 := bc0 BK309; have hfz69_0 := bf BK309 0; have hcz70_0 := bc0 BK299; have hfz70_0 := bf BK299 0))
              refine bodyPost_ret (results_ct rfl _ _ gb299 30 #[.slice Ao66 t310.length co66] (0, 0) _ rfl (by (with_reducible repeat (first | refine blk_drewN ?_ _ | refine blk_drew ?_ | refine blk_alloc ?_ _)); refine blk_put (cs := #[.slice none 0 0]) ?_ 0 _ rfl; (with_reducible repeat (first | refine blk_drewN ?_ _ | refine blk_drew ?_ | refine blk_alloc ?_ _)); exact BK299.out) Try.underlying30 rfl (by kernel_rfl)) rfl ?_
              exact ⟨_, by first | rfl | (simp [errW_none, errW_some] <;> rfl) | (simp [*, errW_none, errW_some] <;> rfl), by (with_reducible repeat (first | apply Kd.R_alloc | apply Kd.R_drewN | apply Kd.R_drew)); exact Kd.R_mono (Kd.R_far (p := ⟨gb299, 0, none⟩) (Kd.R_types HO312.out BK299.out (by decide)) (fun _ hk => hk.2) (.slice Ao66 t310.length co66)) (fun _ hk => trivial), t6_⟩
            · replace c49 := Bool.eq_false_iff.mpr c49
              subst c49
              have H1 : (some (([] : List (S71)), false)) = some (r1, r2) := by rw [if_neg (show ¬ (false = true) by decide)] at H; exact H
              clear H
              have H := H1
              clear H1
              simp only [Option.some.injEq, Prod.mk.injEq] at H
              obtain ⟨rfl, rfl⟩ := H
              go_wp2_with (first | ((with_reducible refine gate_dst (N := 31) rfl ?_); refine Kd.R_lit k71 _ 71 ?hg (N := 31) ?hd (xs := ([] : List (S71))) (inner := []) (ok := fun _ => True) (okp := fun _ => True) ?hr ?hp (fun _ hk => hk) trivial (Below.refl _ _) (Nat.le_refl _) (by simp) ?_; (case hd => rfl); (case hg => rfl); (case hr => first | (go_simp; done) | (go_simp; rfl)); (case hp => exact (Reps.none _ _)); intro v304 w71 ho72 hb hg_ hnew_; clear hg_ hnew_; (first | rw [← Ny303.out] at ho72 | (simp only [Int.reduceToNat] at ho72; rw [← Ny303.out] at ho72)); have HO305 := Aside0.mk (Kd.R_lower ho72 (below_size t2_)); replace BK297 := bkN BK297 hb; replace BK298 := bkN BK298 hb; replace BK299 := bkN BK299 hb; replace HB := Aside0.mk (below_step t2_ hb); clear hb ho72; have hnb73 := NB297_298.out; have hnc73 := NB298_297.out; have hnb74 := NB297_299.out; have hnc74 := NB299_297.out; have hcz75_0 := bc0 BK297; have hfz75_0 := bf BK297 0) | ((with_reducible refine gate_builtin (b := .append) (xs := #[.tmp 31, .tmp 33]) rfl ?_); at_builtin; refine Kd.R_append_rows k71 (w0 := w) w.heap.size rfl (.tmp 31) (.tmp 33) 28 71 (.agg #[(.string ⟨#[]⟩), (.string ⟨#[]⟩)]) 32 rfl Try.underlying28 info71 rfl (by decide) (by omega) v304 y303 l0_0 _ _ _ (fun _ => True) (fun _ => False) rfl rfl ?aO ?aR (fun _ _ h => h) (fun _ h => h.elim) ?aF ?aB ?aS ?aL ?_; (case aR => exact cB HR0_0 HB); (case aB => exact t2_); (case aF => exact (fun _ _ => trivial)); (case aO => exact t46_); (case aS => exact (below_size t2_)); (case aL => have := LMc45.out; omega); intro v307 w76 ho hb hg hat; rw [← Ny306.out] at ho; have n0_ := Aside0.mk (blk_grown (g := gb297) (o := .cells #[.slice A0_0 l0_0.length c0_0] 30 (0, 0)) t37_ hg (Kd.R_ne HO305.out BK297.out (by decide))); have n1_ := Aside0.mk (blk_grown (g := gb298) (o := .cells #[.int .i64 a1_0, .string a1_1, .string a1_2, .string a1_3] 65 (0, 0)) t38_ hg (Kd.R_ne HO305.out BK298.out (by decide))); have n2_ := Aside0.mk (blk_grown (g := gb299) (o := .cells #[.slice none 0 0] 30 (0, 0)) t39_ hg (Kd.R_ne HO305.out BK299.out (by decide))); have n3_ := Aside0.mk (hb); have n4_ := Aside0.mk (ho); clear BK297; clear BK298; clear BK299; clear HB; clear HO305; have BK297 := n0_; have BK298 := n1_; have BK299 := n2_; have HB := n3_; have HO308 := n4_; clear n0_ n1_ n2_ n3_ n4_; clear ho hb hg hat; obtain ⟨Ao77, co77, eo77⟩ := Kd.R_slice HO308.out; subst eo77) | ((with_reducible refine gate_dst (N := 7) rfl ?_); refine boxE (N := 7) (cs := #[.slice none 0 0]) (t := 30) (h := ?_); intro gb309 hg w78 hbox hb; replace HO308 := Aside0.mk (Kd.R_below t20_ hb); have BK309 := Aside0.mk (hbox); have GW309 := Aside0.mk ((t14_ : w.heap.size ≤ gb309)); have GE309 := Aside0.mk ((t14_ : w.heap.size ≤ gb309)); replace HB := Aside0.mk (below_step t2_ hb); have NB297_309 := nbL BK297 hg; have NB309_297 := nbG BK297 hg; replace BK297 := bkN BK297 hb; have NB298_309 := nbL BK298 hg; have NB309_298 := nbG BK298 hg; replace BK298 := bkN BK298 hb; have NB299_309 := nbL BK299 hg; have NB309_299 := nbG BK299 hg; replace BK299 := bkN BK299 hb; clear hb hbox hg; have hnb79 := NB309_297.out; have hnc79 := NB297_309.out; have hnb80 := NB309_298.out; have hnc80 := NB298_309.out; have hnb81 := NB309_299.out; have hnc81 := NB299_309.out; have hcz82_0 := bc0 BK309; have hfz82_0 := bf BK309 0; have hnb83 := NB298_299.out; have hnc83 := NB299_298.out; have hcz84_0 := bc0 BK298; have hcz84_1 := bc1 BK298; have hcz84_2 := bc2 BK298; have hcz84_3 := bc3 BK298; have hfz84_0 := bf BK298 0; have hfz84_1 := bf BK298 1; have hfz84_2 := bf BK298 2; have hfz84_3 := bf BK298 3; have hcz85_0 := bc0 BK297; have hfz85_0 := bf BK297 0) | ((with_reducible refine gate_callee (f := 79) rfl ?_); refine goesL_ (some 46) rfl rfl Try.func79 (by kernel_rfl) rfl #[.agg #[.slice A0_0 l0_0.length c0_0], .agg #[.string a1_1, .string a1_3]] rfl t1_ ?_; (with_reducible refine (spec_l03Put.calls kj3 _ _ l0_0 a1_1 a1_3 t310 _ ?side1 ?side2 A47.out).mono ?_); (case side1 => exact Kd.C_below HR0_0.out t6_); (case side2 => exact HC0_0.out); rintro e w86 ⟨v311, rfl, ho0, hb⟩; refine ⟨_, rfl, ?_⟩; have HO312 := Aside0.mk (Kd.R_lower (Kd.R_new' ho0 (Kd.R_lt (by (with_reducible repeat (first | apply Kd.R_alloc | apply Kd.R_drewN | apply Kd.R_drew)); exact (Kd.R_mono (Kd.R_far (p := ⟨gb309, 0, none⟩) (Kd.R_types HO308.out BK309.out (by decide)) (fun _ hk => hk.2) (.slice Ao77 y306.length co77)) (fun _ h_ => h_.1))))) (below_size t6_)); replace HO308 := Aside0.mk (Kd.R_elder' (by (with_reducible repeat (first | apply Kd.R_alloc | apply Kd.R_drewN | apply Kd.R_drew)); exact (Kd.R_mono (Kd.R_far (p := ⟨gb309, 0, none⟩) (Kd.R_types HO308.out BK309.out (by decide)) (fun _ hk => hk.2) (.slice Ao77 y306.length co77)) (fun _ h_ => h_.1))) (Kd.R_base ho0) hb); replace BK297 := bkF BK297 NB297_309 hb; replace BK298 := bkF BK298 NB298_309 hb; replace BK299 := bkF BK299 NB299_309 hb; replace BK309 := Aside0.mk (blk_below (g := gb309) (o := .cells #[.slice Ao77 y306.length co77] 30 (0, 0)) (by (with_reducible repeat (first | refine blk_drewN ?_ _ | refine blk_drew ?_ | refine blk_alloc ?_ _)); refine blk_put (cs := #[.slice none 0 0]) ?_ 0 _ rfl; (with_reducible repeat (first | refine blk_drewN ?_ _ | refine blk_drew ?_ | refine blk_alloc ?_ _)); exact BK309.out) hb); replace HB := Aside0.mk (below_step t6_ hb); (try clear hb); (try clear hb2); (try clear hk); (try clear hi); (try clear ho0); obtain ⟨Ao87, co87, eo87⟩ := Kd.R_slice HO312.out; subst eo87; have hcz88_0 := bc0 BK309; have hfz88_0 := bf BK309 0) | ((with_reducible refine gate_callee (f := 56) rfl ?_); refine goesL_ (some 89) rfl rfl Try.func56 (by kernel_rfl) rfl #[.agg #[.slice Ao87 t310.length co87]] rfl t1_ ?_; (with_reducible refine (spec_DiskOk.calls kj3 _ _ t310 false _ ?side1 ?side2 A48.out).mono ?_); (case side1 => refine (Kd.R_reads' (e := 71) (base := w.heap.size) (ok := fun k_ => (True ∧ some k_ ≠ (.slice Ao77 y306.length co77 : Value).ownBlock)) (n := t310.length) (c := co87) ?_).2.2; exact (by (with_reducible repeat (first | apply Kd.R_alloc | apply Kd.R_drewN | apply Kd.R_drew)); exact (Kd.R_mono (Kd.R_far (p := ⟨gb309, 0, none⟩) (Kd.R_types HO312.out BK309.out (by decide)) (fun _ hk => hk.2) (.slice Ao87 t310.length co87)) (fun _ h_ => h_.1)))); (case side2 => exact (Kd.R_reads' HO312.out).2.1); rintro e w89 ⟨rfl, hb⟩; refine ⟨_, rfl, ?_⟩; replace HO308 := Aside0.mk (Kd.R_below (by (with_reducible repeat (first | apply Kd.R_alloc | apply Kd.R_drewN | apply Kd.R_drew)); exact (Kd.R_mono (Kd.R_far (p := ⟨gb309, 0, none⟩) (Kd.R_types HO308.out BK309.out (by decide)) (fun _ hk => hk.2) (.slice Ao87 t310.length co87)) (fun _ h_ => h_.1))) hb); replace HO312 := Aside0.mk (Kd.R_below (by (with_reducible repeat (first | apply Kd.R_alloc | apply Kd.R_drewN | apply Kd.R_drew)); exact (Kd.R_mono (Kd.R_far (p := ⟨gb309, 0, none⟩) (Kd.R_types HO312.out BK309.out (by decide)) (fun _ hk => hk.2) (.slice Ao87 t310.length co87)) (fun _ h_ => h_.1))) hb); replace BK297 := bkF BK297 NB297_309 hb; replace BK298 := bkF BK298 NB298_309 hb; replace BK299 := bkF BK299 NB299_309 hb; replace BK309 := Aside0.mk (blk_below (g := gb309) (o := .cells #[.slice Ao87 t310.length co87] 30 (0, 0)) (by (with_reducible repeat (first | refine blk_drewN ?_ _ | refine blk_drew ?_ | refine blk_alloc ?_ _)); refine blk_put (cs := #[.slice Ao77 y306.length co77]) ?_ 0 _ rfl; (with_reducible repeat (first | refine blk_drewN ?_ _ | refine blk_drew ?_ | refine blk_alloc ?_ _)); exact BK309.out) hb); replace HB := Aside0.mk (below_step t6_ hb); (try clear hb); (try clear hb2); (try clear hk); (try clear hi); have hcz90_0 := bc0 BK299; have hfz90_0 := bf BK299 0))
              refine bodyPost_ret (results_ct rfl _ _ gb299 30 #[.slice none 0 0] (0, 0) _ rfl (by (with_reducible repeat (first | refine blk_drewN ?_ _ | refine blk_drew ?_ | refine blk_alloc ?_ _)); refine blk_put (cs := #[.slice none 0 0]) ?_ 0 _ rfl; (with_reducible repeat (first | refine blk_drewN ?_ _ | refine blk_drew ?_ | refine blk_alloc ?_ _)); exact BK299.out) Try.underlying30 rfl (by kernel_rfl)) rfl ?_
              exact ⟨_, by first | rfl | (simp [errW_none, errW_some] <;> rfl) | (simp [*, errW_none, errW_some] <;> rfl), by first | exact Kd.R_nil _ _ _ _ _ | exact Kd.N_nil _ _ _ _ _ | exact Kd.V_nil _ _ _ _ _ | exact Kd.Q_nil _ _ _ _ _ | exact Kd.S_nil _ _ _ _ _, t6_⟩
          · rw [if_neg c46] at H
            have c46b0 : (a1_0 == 1) = false := beq_eq_false_iff_ne.mpr c46
            have c46b1 : (a1_0 != 1) = true := bne_iff_ne.mpr c46
            by_cases c91 : a1_0 = 2
            · rw [if_pos c91] at H
              have c91b0 : (a1_0 == 2) = true := beq_iff_eq.mpr c91
              have c91b1 : (a1_0 != 2) = false := bne_eq_false_iff_eq.mpr c91
              clear c91
              replace H := Option.bind_eq_some_iff.mp H
              obtain ⟨t314, A920, H⟩ := H
              replace H : (if t314.size + a1_3.size ≤ 9223372036854775807 then ((spec_l03Put.f kj3 l0_0 a1_1 (t314 ++ a1_3)).bind fun t315 => ((spec_DiskOk.f kj3 t315).bind fun t318 => (if t318 = true then (some (t315, true)) else (some (([] : List (S71)), false))))) else (none)) = some (r1, r2) := H
              have A92 := Aside0.mk A920
              clear A920
              by_cases c93 : t314.size + a1_3.size ≤ 9223372036854775807
              · rw [if_pos c93] at H
                have c93b0 := eq_true c93
                have c93b1 : decide (t314.size + a1_3.size ≤ 9223372036854775807) = true := decide_eq_true c93
                try have c93b2 : (9223372036854775807 < t314.size + a1_3.size) = False := eq_false (Nat.not_lt.2 c93)
                replace H := Option.bind_eq_some_iff.mp H
                obtain ⟨t315, A940, H⟩ := H
                replace H : ((spec_DiskOk.f kj3 t315).bind fun t318 => (if t318 = true then (some (t315, true)) else (some (([] : List (S71)), false)))) = some (r1, r2) := H
                have A94 := Aside0.mk A940
                clear A940
                replace H := Option.bind_eq_some_iff.mp H
                obtain ⟨t318, A950, H⟩ := H
                replace H : (if t318 = true then (some (t315, true)) else (some (([] : List (S71)), false))) = some (r1, r2) := H
                have A95 := Aside0.mk A950
                clear A950
                by_cases c96 : t318 = true
                · subst c96
                  have H1 : (some (t315, true)) = some (r1, r2) := by rw [if_pos rfl] at H; exact H
                  clear H
                  have H := H1
                  clear H1
                  simp only [Option.some.injEq, Prod.mk.injEq] at H
                  obtain ⟨rfl, rfl⟩ := H
                  try go_wp2_with (first | ((with_reducible refine gate_dst (N := 31) rfl ?_); refine Kd.R_lit k71 _ 71 ?hg (N := 31) ?hd (xs := ([] : List (S71))) (inner := []) (ok := fun _ => True) (okp := fun _ => True) ?hr ?hp (fun _ hk => hk) trivial (Below.refl _ _) (Nat.le_refl _) (by simp) ?_; (case hd => rfl); (case hg => rfl); (case hr => first | (go_simp; done) | (go_simp; rfl)); (case hp => exact (Reps.none _ _)); intro v304 w97 ho98 hb hg_ hnew_; clear hg_ hnew_; (first | rw [← Ny303.out] at ho98 | (simp only [Int.reduceToNat] at ho98; rw [← Ny303.out] at ho98)); have HO305 := Aside0.mk (Kd.R_lower ho98 (below_size t2_)); replace BK297 := bkN BK297 hb; replace BK298 := bkN BK298 hb; replace BK299 := bkN BK299 hb; replace HB := Aside0.mk (below_step t2_ hb); clear hb ho98; have hnb99 := NB297_298.out; have hnc99 := NB298_297.out; have hnb100 := NB297_299.out; have hnc100 := NB299_297.out; have hcz101_0 := bc0 BK297; have hfz101_0 := bf BK297 0) | ((with_reducible refine gate_builtin (b := .append) (xs := #[.tmp 31, .tmp 33]) rfl ?_); at_builtin; refine Kd.R_append_rows k71 (w0 := w) w.heap.size rfl (.tmp 31) (.tmp 33) 28 71 (.agg #[(.string ⟨#[]⟩), (.string ⟨#[]⟩)]) 32 rfl Try.underlying28 info71 rfl (by decide) (by omega) v304 y303 l0_0 _ _ _ (fun _ => True) (fun _ => False) rfl rfl ?aO ?aR (fun _ _ h => h) (fun _ h => h.elim) ?aF ?aB ?aS ?aL ?_; (case aR => exact cB HR0_0 HB); (case aB => exact t2_); (case aF => exact (fun _ _ => trivial)); (case aO => exact t46_); (case aS => exact (below_size t2_)); (case aL => have := LMc45.out; omega); intro v307 w102 ho hb hg hat; rw [← Ny306.out] at ho; have n0_ := Aside0.mk (blk_grown (g := gb297) (o := .cells #[.slice A0_0 l0_0.length c0_0] 30 (0, 0)) t37_ hg (Kd.R_ne HO305.out BK297.out (by decide))); have n1_ := Aside0.mk (blk_grown (g := gb298) (o := .cells #[.int .i64 a1_0, .string a1_1, .string a1_2, .string a1_3] 65 (0, 0)) t38_ hg (Kd.R_ne HO305.out BK298.out (by decide))); have n2_ := Aside0.mk (blk_grown (g := gb299) (o := .cells #[.slice none 0 0] 30 (0, 0)) t39_ hg (Kd.R_ne HO305.out BK299.out (by decide))); have n3_ := Aside0.mk (hb); have n4_ := Aside0.mk (ho); clear BK297; clear BK298; clear BK299; clear HB; clear HO305; have BK297 := n0_; have BK298 := n1_; have BK299 := n2_; have HB := n3_; have HO308 := n4_; clear n0_ n1_ n2_ n3_ n4_; clear ho hb hg hat; obtain ⟨Ao103, co103, eo103⟩ := Kd.R_slice HO308.out; subst eo103) | ((with_reducible refine gate_dst (N := 7) rfl ?_); refine boxE (N := 7) (cs := #[.slice none 0 0]) (t := 30) (h := ?_); intro gb309 hg w104 hbox hb; replace HO308 := Aside0.mk (Kd.R_below t20_ hb); have BK309 := Aside0.mk (hbox); have GW309 := Aside0.mk ((t14_ : w.heap.size ≤ gb309)); have GE309 := Aside0.mk ((t14_ : w.heap.size ≤ gb309)); replace HB := Aside0.mk (below_step t2_ hb); have NB297_309 := nbL BK297 hg; have NB309_297 := nbG BK297 hg; replace BK297 := bkN BK297 hb; have NB298_309 := nbL BK298 hg; have NB309_298 := nbG BK298 hg; replace BK298 := bkN BK298 hb; have NB299_309 := nbL BK299 hg; have NB309_299 := nbG BK299 hg; replace BK299 := bkN BK299 hb; clear hb hbox hg; have hnb105 := NB309_297.out; have hnc105 := NB297_309.out; have hnb106 := NB309_298.out; have hnc106 := NB298_309.out; have hnb107 := NB309_299.out; have hnc107 := NB299_309.out; have hcz108_0 := bc0 BK309; have hfz108_0 := bf BK309 0; have hnb109 := NB298_299.out; have hnc109 := NB299_298.out; have hcz110_0 := bc0 BK298; have hcz110_1 := bc1 BK298; have hcz110_2 := bc2 BK298; have hcz110_3 := bc3 BK298; have hfz110_0 := bf BK298 0; have hfz110_1 := bf BK298 1; have hfz110_2 := bf BK298 2; have hfz110_3 := bf BK298 3))
                  have n0_ : Aside0 (Kd.R k71 71 (w104.setCell ⟨gb309, 0, none⟩ (.slice Ao103 y306.length co103)) w.heap.size (fun _ => True) (.slice Ao103 y306.length co103) y306) := ⟨by (with_reducible repeat (first | apply Kd.R_alloc | apply Kd.R_drewN | apply Kd.R_drew)); exact Kd.R_mono (Kd.R_far (p := ⟨gb309, 0, none⟩) (Kd.R_types HO308.out BK309.out (by decide)) (fun _ hk => hk.2) (.slice Ao103 y306.length co103)) (fun _ hk => trivial)⟩
                  have n1_ : Aside0 ((w104.setCell ⟨gb309, 0, none⟩ (.slice Ao103 y306.length co103)).heap[gb297]? = some (.cells #[.slice A0_0 l0_0.length c0_0] 30 (0, 0))) := ⟨by (with_reducible repeat (first | refine blk_drewN ?_ _ | refine blk_drew ?_ | refine blk_alloc ?_ _)); refine blk_far ?_ NB297_309.out _; (with_reducible repeat (first | refine blk_drewN ?_ _ | refine blk_drew ?_ | refine blk_alloc ?_ _)); exact BK297.out⟩
                  have n2_ : Aside0 ((w104.setCell ⟨gb309, 0, none⟩ (.slice Ao103 y306.length co103)).heap[gb298]? = some (.cells #[.int .i64 a1_0, .string a1_1, .string a1_2, .string a1_3] 65 (0, 0))) := ⟨by (with_reducible repeat (first | refine blk_drewN ?_ _ | refine blk_drew ?_ | refine blk_alloc ?_ _)); refine blk_far ?_ NB298_309.out _; (with_reducible repeat (first | refine blk_drewN ?_ _ | refine blk_drew ?_ | refine blk_alloc ?_ _)); exact BK298.out⟩
                  have n3_ : Aside0 ((w104.setCell ⟨gb309, 0, none⟩ (.slice Ao103 y306.length co103)).heap[gb299]? = some (.cells #[.slice none 0 0] 30 (0, 0))) := ⟨by (with_reducible repeat (first | refine blk_drewN ?_ _ | refine blk_drew ?_ | refine blk_alloc ?_ _)); refine blk_far ?_ NB299_309.out _; (with_reducible repeat (first | refine blk_drewN ?_ _ | refine blk_drew ?_ | refine blk_alloc ?_ _)); exact BK299.out⟩
                  have n4_ : Aside0 ((w104.setCell ⟨gb309, 0, none⟩ (.slice Ao103 y306.length co103)).heap[gb309]? = some (.cells #[.slice Ao103 y306.length co103] 30 (0, 0))) := ⟨by (with_reducible repeat (first | refine blk_drewN ?_ _ | refine blk_drew ?_ | refine blk_alloc ?_ _)); refine blk_put (cs := #[.slice none 0 0]) ?_ 0 _ rfl; (with_reducible repeat (first | refine blk_drewN ?_ _ | refine blk_drew ?_ | refine blk_alloc ?_ _)); exact BK309.out⟩
                  have n5_ : Aside0 (Below w.heap.size w (w104.setCell ⟨gb309, 0, none⟩ (.slice Ao103 y306.length co103))) := ⟨t6_⟩
                  (try clear HO308)
                  (try clear BK297)
                  (try clear BK298)
                  (try clear BK299)
                  (try clear BK309)
                  (try clear HB)
                  generalize (w104.setCell ⟨gb309, 0, none⟩ (.slice Ao103 y306.length co103)) = w111 at n0_ n1_ n2_ n3_ n4_ n5_ ⊢
                  have HO308 := n0_
                  have BK297 := n1_
                  have BK298 := n2_
                  have BK299 := n3_
                  have BK309 := n4_
                  have HB := n5_
                  clear n0_ n1_ n2_ n3_ n4_ n5_
                  replace HO308 := Aside0.mk (Kd.R_drew HO308.out)
                  replace BK297 := Aside0.mk (blk_drew BK297.out)
                  replace BK298 := Aside0.mk (blk_drew BK298.out)
                  replace BK299 := Aside0.mk (blk_drew BK299.out)
                  replace BK309 := Aside0.mk (blk_drew BK309.out)
                  replace HB := Aside0.mk (below_drew1 HB.out)
                  refine start_ (n := 13) (S := fun w' => w'.cell? ⟨gb297, 0, none⟩ = some (.slice A0_0 l0_0.length c0_0) ∧ w'.cell? ⟨gb298, 0, none⟩ = some (.int .i64 a1_0) ∧ w'.cell? ⟨gb298, 1, none⟩ = some (.string a1_1) ∧ w'.cell? ⟨gb298, 2, none⟩ = some (.string a1_2) ∧ w'.cell? ⟨gb298, 3, none⟩ = some (.string a1_3)) (ds := []) #[false, false, false, false, false, false, false, false, false, false, false, false, false] (by kernel_rfl) rfl rfl ⟨bc0 BK297, bc0 BK298, bc1 BK298, bc2 BK298, bc3 BK298⟩ (fun hHeld => ?_); refine with_tabW spec_PutRaw.tab9 spec_PutRaw.bits9 (fun HT_ HW_ => ?_)
                  generalize w111.drew = w112 at HO308 BK297 BK298 BK299 BK309 HB hHeld ⊢
                  refine pure_ (i := 1) (N := some 50) (v := ?_) (a' := ?_) #[false, true, false, false, false, false, false, false, false, false, false, false, false] rfl rfl (any_of HT_.out (by kernel_rfl)) (fun _ _ _ h => h) (Or.inl ⟨by rfl, ?_⟩) ?_ ?_
                  rotate_left
                  · intro w'
                    go_simp
                    with_reducible rfl
                  rotate_left
                  · simp only [Act.put, List.setIfInBounds_toArray, List.set_cons_zero, List.set_cons_succ, i64_w, i32_w]
                    rfl
                  refine pure_ (i := 4) (N := some 53) (v := ?_) (a' := ?_) #[false, true, false, false, true, false, false, false, false, false, false, false, false] rfl rfl (any_of HT_.out (by kernel_rfl)) (fun _ _ _ h => h) (Or.inl ⟨by rfl, ?_⟩) ?_ ?_
                  rotate_left
                  · intro w'
                    go_simp
                    with_reducible rfl
                  rotate_left
                  · simp only [Act.put, List.setIfInBounds_toArray, List.set_cons_zero, List.set_cons_succ, i64_w, i32_w]
                    rfl
                  refine pure_ (i := 7) (N := some 56) (v := ?_) (a' := ?_) #[false, true, false, false, true, false, false, true, false, false, false, false, false] rfl rfl (any_of HT_.out (by kernel_rfl)) (fun _ _ _ h => h) (Or.inl ⟨by rfl, ?_⟩) ?_ ?_
                  rotate_left
                  · intro w'
                    go_simp
                    with_reducible rfl
                  rotate_left
                  · simp only [Act.put, List.setIfInBounds_toArray, List.set_cons_zero, List.set_cons_succ, i64_w, i32_w]
                    rfl
                  refine take_ (i := 0) (N := some 49) (v := ?_) (a' := ?_) #[true, true, false, false, true, false, false, true, false, false, false, false, false] rfl rfl (take_ofW HT_.out HW_.out (by kernel_rfl)) (fun _ _ _ h => h) (Or.inl ⟨by rfl, ?_⟩) hHeld ?_ ?_
                  rotate_left
                  · rintro w' ⟨s0, s1, s2, s3, s4⟩
                    go_simp
                    with_reducible rfl
                  rotate_left
                  · simp only [Act.put, List.setIfInBounds_toArray, List.set_cons_zero, List.set_cons_succ, i64_w, i32_w]
                    rfl
                  refine take_ (i := 2) (N := some 51) (v := ?_) (a' := ?_) #[true, true, true, false, true, false, false, true, false, false, false, false, false] rfl rfl (take_ofW HT_.out HW_.out (by kernel_rfl)) (fun _ _ _ h => h) (Or.inl ⟨by rfl, ?_⟩) hHeld ?_ ?_
                  rotate_left
                  · rintro w' ⟨s0, s1, s2, s3, s4⟩
                    go_simp
                    with_reducible rfl
                  rotate_left
                  · simp only [Act.put, List.setIfInBounds_toArray, List.set_cons_zero, List.set_cons_succ, i64_w, i32_w]
                    rfl
                  refine take_ (i := 3) (N := some 52) (v := ?_) (a' := ?_) #[true, true, true, true, true, false, false, true, false, false, false, false, false] rfl rfl (take_ofW HT_.out HW_.out (by kernel_rfl)) (fun _ _ _ h => h) (Or.inl ⟨by rfl, ?_⟩) hHeld ?_ ?_
                  rotate_left
                  · rintro w' ⟨s0, s1, s2, s3, s4⟩
                    go_simp
                    with_reducible rfl
                  rotate_left
                  · simp only [Act.put, List.setIfInBounds_toArray, List.set_cons_zero, List.set_cons_succ, i64_w, i32_w]
                    rfl
                  refine take_ (i := 5) (N := some 54) (v := ?_) (a' := ?_) #[true, true, true, true, true, true, false, true, false, false, false, false, false] rfl rfl (take_ofW HT_.out HW_.out (by kernel_rfl)) (fun _ _ _ h => h) (Or.inl ⟨by rfl, ?_⟩) hHeld ?_ ?_
                  rotate_left
                  · rintro w' ⟨s0, s1, s2, s3, s4⟩
                    go_simp
                    with_reducible rfl
                  rotate_left
                  · simp only [Act.put, List.setIfInBounds_toArray, List.set_cons_zero, List.set_cons_succ, i64_w, i32_w]
                    rfl
                  refine take_ (i := 8) (N := some 57) (v := ?_) (a' := ?_) #[true, true, true, true, true, true, false, true, true, false, false, false, false] rfl rfl (take_ofW HT_.out HW_.out (by kernel_rfl)) (fun _ _ _ h => h) (Or.inl ⟨by rfl, ?_⟩) hHeld ?_ ?_
                  rotate_left
                  · rintro w' ⟨s0, s1, s2, s3, s4⟩
                    go_simp
                    with_reducible rfl
                  rotate_left
                  · simp only [Act.put, List.setIfInBounds_toArray, List.set_cons_zero, List.set_cons_succ, i64_w, i32_w]
                    rfl
                  refine one_ (i := 6) (N := some 55) #[true, true, true, true, true, true, true, true, true, false, false, false, false] rfl rfl (one_of HT_.out (by kernel_rfl)) (by decide) (fun K hK => ?_)
                  refine goes_ Try.func87 (by kernel_rfl) rfl #[.agg #[.slice A0_0 l0_0.length c0_0], .string a1_1] (by rfl) rfl rfl t1_ ?_
                  with_reducible refine (spec_l03Text.calls kj3 _ _ l0_0 a1_1 t314 _ ?side1 ?side2 A92.out).mono ?_
                  (case side1 => exact cB HR0_0 HB)
                  (case side2 => exact HC0_0.out)
                  rintro e w113 ⟨rfl, hb⟩
                  refine ⟨_, rfl, ?_⟩
                  replace HO308 := Aside0.mk (Kd.R_below t20_ hb)
                  replace BK297 := bkN BK297 hb
                  replace BK298 := bkN BK298 hb
                  replace BK299 := bkN BK299 hb
                  replace BK309 := bkN BK309 hb
                  replace HB := Aside0.mk (below_step t6_ hb)
                  (try clear hb)
                  (try clear hb2)
                  (try clear hk)
                  (try clear hi)
                  refine hK.out _ _ ⟨bc0 BK297, bc0 BK298, bc1 BK298, bc2 BK298, bc3 BK298⟩ (fun hHeld => ?_)
                  clear hK K
                  refine norm_ (a' := ?_) ?_ ?_
                  rotate_left
                  · show Act.put _ (some 55) _ = _
                    simp only [Act.put, List.setIfInBounds_toArray, List.set_cons_zero, List.set_cons_succ, i64_w, i32_w]
                    rfl
                  refine pure_ (i := 9) (N := some 58) (v := ?_) (a' := ?_) #[true, true, true, true, true, true, true, true, true, true, false, false, false] rfl rfl (any_of HT_.out (by kernel_rfl)) (fun _ _ _ h => h) (Or.inl ⟨by rfl, ?_⟩) ?_ ?_
                  rotate_left
                  · intro w'
                    go_simp
                    with_reducible rfl
                  rotate_left
                  · simp only [Act.put, List.setIfInBounds_toArray, List.set_cons_zero, List.set_cons_succ, i64_w, i32_w]
                    rfl
                  refine pure_ (i := 10) (N := some 59) (v := ?_) (a' := ?_) #[true, true, true, true, true, true, true, true, true, true, true, false, false] rfl rfl (any_of HT_.out (by kernel_rfl)) (fun _ _ _ h => h) (Or.inl ⟨by rfl, ?_⟩) ?_ ?_
                  rotate_left
                  · intro w'
                    go_simp
                    with_reducible rfl
                  rotate_left
                  · simp only [Act.put, List.setIfInBounds_toArray, List.set_cons_zero, List.set_cons_succ, i64_w, i32_w]
                    rfl
                  refine one_ (i := 11) (N := some 60) #[true, true, true, true, true, true, true, true, true, true, true, true, false] rfl rfl (one_of HT_.out (by kernel_rfl)) (by decide) (fun K hK => ?_)
                  refine goes_ Try.func79 (by kernel_rfl) rfl #[.agg #[.slice A0_0 l0_0.length c0_0], .agg #[.string a1_1, .string (t314 ++ a1_3)]] (by rfl) rfl rfl t1_ ?_
                  with_reducible refine (spec_l03Put.calls kj3 _ _ l0_0 a1_1 (t314 ++ a1_3) t315 _ ?side1 ?side2 A94.out).mono ?_
                  (case side1 => exact cB HR0_0 HB)
                  (case side2 => exact HC0_0.out)
                  rintro e w114 ⟨v316, rfl, ho0, hb⟩
                  refine ⟨_, rfl, ?_⟩
                  have HO317 := Aside0.mk (Kd.R_lower (Kd.R_new' ho0 (Kd.R_lt t20_)) (below_size t6_))
                  replace HO308 := Aside0.mk (Kd.R_elder' t20_ (Kd.R_base ho0) hb)
                  replace BK297 := bkN BK297 hb
                  replace BK298 := bkN BK298 hb
                  replace BK299 := bkN BK299 hb
                  replace BK309 := bkN BK309 hb
                  replace HB := Aside0.mk (below_step t6_ hb)
                  (try clear hb)
                  (try clear hb2)
                  (try clear hk)
                  (try clear hi)
                  (try clear ho0)
                  obtain ⟨Ao115, co115, eo115⟩ := Kd.R_slice HO317.out
                  (first | subst eo115 | (injection eo115 with f1_ f2_ f3_; have f4_ := f1_.symm; have f5_ := f3_.symm; clear f1_ f2_ f3_; subst f4_; subst f5_))
                  refine hK.out _ _ ⟨bc0 BK297, bc0 BK298, bc1 BK298, bc2 BK298, bc3 BK298⟩ (fun hHeld => ?_)
                  clear hK K
                  refine norm_ (a' := ?_) ?_ ?_
                  rotate_left
                  · show Act.put _ (some 60) _ = _
                    simp only [Act.put, List.setIfInBounds_toArray, List.set_cons_zero, List.set_cons_succ, i64_w, i32_w]
                    rfl
                  refine one_ (i := 12) (N := none) #[true, true, true, true, true, true, true, true, true, true, true, true, true] rfl rfl (one_of HT_.out (by kernel_rfl)) (by decide) (fun K hK => ?_)
                  have hs116 : w114.cell? ⟨gb309, 0, none⟩ = some (.slice Ao103 y306.length co103) := bc0 BK309
                  have hfs116 := bf BK309 0
                  have hns116_0 := NB297_309.out
                  have hns116_1 := NB298_309.out
                  have hns116_2 := NB299_309.out
                  have hms116_0 := NB309_297.out
                  have hms116_1 := NB309_298.out
                  have hms116_2 := NB309_299.out
                  refine skip_ (w1 := ?_) (by rfl) rfl ?_ ?_
                  rotate_left
                  · go_simp
                    rfl
                  refine hK.out _ _ ⟨((cell_far (p := ⟨gb309, _, none⟩) NB297_309.out _).trans (hHeld.1)), ((cell_far (p := ⟨gb309, _, none⟩) NB298_309.out _).trans (hHeld.2.1)), ((cell_far (p := ⟨gb309, _, none⟩) NB298_309.out _).trans (hHeld.2.2.1)), ((cell_far (p := ⟨gb309, _, none⟩) NB298_309.out _).trans (hHeld.2.2.2.1)), ((cell_far (p := ⟨gb309, _, none⟩) NB298_309.out _).trans (hHeld.2.2.2.2))⟩ (fun hHeld => ?_)
                  clear hK K
                  refine done_ (done_of HT_.out (by kernel_rfl)) ?_
                  have hcz117_0 := bc0 BK309
                  have hfz117_0 := bf BK309 0
                  try go_wp2_with (first | ((with_reducible refine gate_callee (f := 56) rfl ?_); refine goesL_ (some 89) rfl rfl Try.func56 (by kernel_rfl) rfl #[.agg #[.slice Ao115 t315.length co115]] rfl t1_ ?_; (with_reducible refine (spec_DiskOk.calls kj3 _ _ t315 true _ ?side1 ?side2 A95.out).mono ?_); (case side1 => refine (Kd.R_reads' (e := 71) (base := w.heap.size) (ok := fun k_ => (True ∧ some k_ ≠ (.slice Ao103 y306.length co103 : Value).ownBlock)) (n := t315.length) (c := co115) ?_).2.2; exact (by (with_reducible repeat (first | apply Kd.R_alloc | apply Kd.R_drewN | apply Kd.R_drew)); exact (Kd.R_mono (Kd.R_far (p := ⟨gb309, 0, none⟩) (Kd.R_types HO317.out BK309.out (by decide)) (fun _ hk => hk.2) (.slice Ao115 t315.length co115)) (fun _ h_ => h_.1)))); (case side2 => exact (Kd.R_reads' HO317.out).2.1); rintro e w118 ⟨rfl, hb⟩; refine ⟨_, rfl, ?_⟩; replace HO308 := Aside0.mk (Kd.R_below (by (with_reducible repeat (first | apply Kd.R_alloc | apply Kd.R_drewN | apply Kd.R_drew)); exact (Kd.R_mono (Kd.R_far (p := ⟨gb309, 0, none⟩) (Kd.R_types HO308.out BK309.out (by decide)) (fun _ hk => hk.2) (.slice Ao115 t315.length co115)) (fun _ h_ => h_.1))) hb); replace HO317 := Aside0.mk (Kd.R_below (by (with_reducible repeat (first | apply Kd.R_alloc | apply Kd.R_drewN | apply Kd.R_drew)); exact (Kd.R_mono (Kd.R_far (p := ⟨gb309, 0, none⟩) (Kd.R_types HO317.out BK309.out (by decide)) (fun _ hk => hk.2) (.slice Ao115 t315.length co115)) (fun _ h_ => h_.1))) hb); replace BK297 := bkF BK297 NB297_309 hb; replace BK298 := bkF BK298 NB298_309 hb; replace BK299 := bkF BK299 NB299_309 hb; replace BK309 := Aside0.mk (blk_below (g := gb309) (o := .cells #[.slice Ao115 t315.length co115] 30 (0, 0)) (by (with_reducible repeat (first | refine blk_drewN ?_ _ | refine blk_drew ?_ | refine blk_alloc ?_ _)); refine blk_put (cs := #[.slice Ao103 y306.length co103]) ?_ 0 _ rfl; (with_reducible repeat (first | refine blk_drewN ?_ _ | refine blk_drew ?_ | refine blk_alloc ?_ _)); exact BK309.out) hb); replace HB := Aside0.mk (below_step t6_ hb); (try clear hb); (try clear hb2); (try clear hk); (try clear hi); have hcz119_0 := bc0 BK309; have hfz119_0 := bf BK309 0; have hcz120_0 := bc0 BK299; have hfz120_0 := bf BK299 0))
                  refine bodyPost_ret (results_ct rfl _ _ gb299 30 #[.slice Ao115 t315.length co115] (0, 0) _ rfl (by (with_reducible repeat (first | refine blk_drewN ?_ _ | refine blk_drew ?_ | refine blk_alloc ?_ _)); refine blk_put (cs := #[.slice none 0 0]) ?_ 0 _ rfl; (with_reducible repeat (first | refine blk_drewN ?_ _ | refine blk_drew ?_ | refine blk_alloc ?_ _)); exact BK299.out) Try.underlying30 rfl (by kernel_rfl)) rfl ?_
                  exact ⟨_, by first | rfl | (simp [errW_none, errW_some] <;> rfl) | (simp [*, errW_none, errW_some] <;> rfl), by (with_reducible repeat (first | apply Kd.R_alloc | apply Kd.R_drewN | apply Kd.R_drew)); exact Kd.R_mono (Kd.R_far (p := ⟨gb299, 0, none⟩) (Kd.R_types HO317.out BK299.out (by decide)) (fun _ hk => hk.2) (.slice Ao115 t315.length co115)) (fun _ hk => trivial), t6_⟩
                · replace c96 := Bool.eq_false_iff.mpr c96
                  subst c96
                  have H1 : (some (([] : List (S71)), false)) = some (r1, r2) := by rw [if_neg (show ¬ (false = true) by decide)] at H; exact H
                  clear H
                  have H := H1
                  clear H1
                  simp only [Option.some.injEq, Prod.mk.injEq] at H
                  obtain ⟨rfl, rfl⟩ := H
                  try go_wp2_with (first | ((with_reducible refine gate_dst (N := 31) rfl ?_); refine Kd.R_lit k71 _ 71 ?hg (N := 31) ?hd (xs := ([] : List (S71))) (inner := []) (ok := fun _ => True) (okp := fun _ => True) ?hr ?hp (fun _ hk => hk) trivial (Below.refl _ _) (Nat.le_refl _) (by simp) ?_; (case hd => rfl); (case hg => rfl); (case hr => first | (go_simp; done) | (go_simp; rfl)); (case hp => exact (Reps.none _ _)); intro v304 w121 ho122 hb hg_ hnew_; clear hg_ hnew_; (first | rw [← Ny303.out] at ho122 | (simp only [Int.reduceToNat] at ho122; rw [← Ny303.out] at ho122)); have HO305 := Aside0.mk (Kd.R_lower ho122 (below_size t2_)); replace BK297 := bkN BK297 hb; replace BK298 := bkN BK298 hb; replace BK299 := bkN BK299 hb; replace HB := Aside0.mk (below_step t2_ hb); clear hb ho122; have hnb123 := NB297_298.out; have hnc123 := NB298_297.out; have hnb124 := NB297_299.out; have hnc124 := NB299_297.out; have hcz125_0 := bc0 BK297; have hfz125_0 := bf BK297 0) | ((with_reducible refine gate_builtin (b := .append) (xs := #[.tmp 31, .tmp 33]) rfl ?_); at_builtin; refine Kd.R_append_rows k71 (w0 := w) w.heap.size rfl (.tmp 31) (.tmp 33) 28 71 (.agg #[(.string ⟨#[]⟩), (.string ⟨#[]⟩)]) 32 rfl Try.underlying28 info71 rfl (by decide) (by omega) v304 y303 l0_0 _ _ _ (fun _ => True) (fun _ => False) rfl rfl ?aO ?aR (fun _ _ h => h) (fun _ h => h.elim) ?aF ?aB ?aS ?aL ?_; (case aR => exact cB HR0_0 HB); (case aB => exact t2_); (case aF => exact (fun _ _ => trivial)); (case aO => exact t46_); (case aS => exact (below_size t2_)); (case aL => have := LMc45.out; omega); intro v307 w126 ho hb hg hat; rw [← Ny306.out] at ho; have n0_ := Aside0.mk (blk_grown (g := gb297) (o := .cells #[.slice A0_0 l0_0.length c0_0] 30 (0, 0)) t37_ hg (Kd.R_ne HO305.out BK297.out (by decide))); have n1_ := Aside0.mk (blk_grown (g := gb298) (o := .cells #[.int .i64 a1_0, .string a1_1, .string a1_2, .string a1_3] 65 (0, 0)) t38_ hg (Kd.R_ne HO305.out BK298.out (by decide))); have n2_ := Aside0.mk (blk_grown (g := gb299) (o := .cells #[.slice none 0 0] 30 (0, 0)) t39_ hg (Kd.R_ne HO305.out BK299.out (by decide))); have n3_ := Aside0.mk (hb); have n4_ := Aside0.mk (ho); clear BK297; clear BK298; clear BK299; clear HB; clear HO305; have BK297 := n0_; have BK298 := n1_; have BK299 := n2_; have HB := n3_; have HO308 := n4_; clear n0_ n1_ n2_ n3_ n4_; clear ho hb hg hat; obtain ⟨Ao127, co127, eo127⟩ := Kd.R_slice HO308.out; subst eo127) | ((with_reducible refine gate_dst (N := 7) rfl ?_); refine boxE (N := 7) (cs := #[.slice none 0 0]) (t := 30) (h := ?_); intro gb309 hg w128 hbox hb; replace HO308 := Aside0.mk (Kd.R_below t20_ hb); have BK309 := Aside0.mk (hbox); have GW309 := Aside0.mk ((t14_ : w.heap.size ≤ gb309)); have GE309 := Aside0.mk ((t14_ : w.heap.size ≤ gb309)); replace HB := Aside0.mk (below_step t2_ hb); have NB297_309 := nbL BK297 hg; have NB309_297 := nbG BK297 hg; replace BK297 := bkN BK297 hb; have NB298_309 := nbL BK298 hg; have NB309_298 := nbG BK298 hg; replace BK298 := bkN BK298 hb; have NB299_309 := nbL BK299 hg; have NB309_299 := nbG BK299 hg; replace BK299 := bkN BK299 hb; clear hb hbox hg; have hnb129 := NB309_297.out; have hnc129 := NB297_309.out; have hnb130 := NB309_298.out; have hnc130 := NB298_309.out; have hnb131 := NB309_299.out; have hnc131 := NB299_309.out; have hcz132_0 := bc0 BK309; have hfz132_0 := bf BK309 0; have hnb133 := NB298_299.out; have hnc133 := NB299_298.out; have hcz134_0 := bc0 BK298; have hcz134_1 := bc1 BK298; have hcz134_2 := bc2 BK298; have hcz134_3 := bc3 BK298; have hfz134_0 := bf BK298 0; have hfz134_1 := bf BK298 1; have hfz134_2 := bf BK298 2; have hfz134_3 := bf BK298 3))
                  have n0_ : Aside0 (Kd.R k71 71 (w128.setCell ⟨gb309, 0, none⟩ (.slice Ao127 y306.length co127)) w.heap.size (fun _ => True) (.slice Ao127 y306.length co127) y306) := ⟨by (with_reducible repeat (first | apply Kd.R_alloc | apply Kd.R_drewN | apply Kd.R_drew)); exact Kd.R_mono (Kd.R_far (p := ⟨gb309, 0, none⟩) (Kd.R_types HO308.out BK309.out (by decide)) (fun _ hk => hk.2) (.slice Ao127 y306.length co127)) (fun _ hk => trivial)⟩
                  have n1_ : Aside0 ((w128.setCell ⟨gb309, 0, none⟩ (.slice Ao127 y306.length co127)).heap[gb297]? = some (.cells #[.slice A0_0 l0_0.length c0_0] 30 (0, 0))) := ⟨by (with_reducible repeat (first | refine blk_drewN ?_ _ | refine blk_drew ?_ | refine blk_alloc ?_ _)); refine blk_far ?_ NB297_309.out _; (with_reducible repeat (first | refine blk_drewN ?_ _ | refine blk_drew ?_ | refine blk_alloc ?_ _)); exact BK297.out⟩
                  have n2_ : Aside0 ((w128.setCell ⟨gb309, 0, none⟩ (.slice Ao127 y306.length co127)).heap[gb298]? = some (.cells #[.int .i64 a1_0, .string a1_1, .string a1_2, .string a1_3] 65 (0, 0))) := ⟨by (with_reducible repeat (first | refine blk_drewN ?_ _ | refine blk_drew ?_ | refine blk_alloc ?_ _)); refine blk_far ?_ NB298_309.out _; (with_reducible repeat (first | refine blk_drewN ?_ _ | refine blk_drew ?_ | refine blk_alloc ?_ _)); exact BK298.out⟩
                  have n3_ : Aside0 ((w128.setCell ⟨gb309, 0, none⟩ (.slice Ao127 y306.length co127)).heap[gb299]? = some (.cells #[.slice none 0 0] 30 (0, 0))) := ⟨by (with_reducible repeat (first | refine blk_drewN ?_ _ | refine blk_drew ?_ | refine blk_alloc ?_ _)); refine blk_far ?_ NB299_309.out _; (with_reducible repeat (first | refine blk_drewN ?_ _ | refine blk_drew ?_ | refine blk_alloc ?_ _)); exact BK299.out⟩
                  have n4_ : Aside0 ((w128.setCell ⟨gb309, 0, none⟩ (.slice Ao127 y306.length co127)).heap[gb309]? = some (.cells #[.slice Ao127 y306.length co127] 30 (0, 0))) := ⟨by (with_reducible repeat (first | refine blk_drewN ?_ _ | refine blk_drew ?_ | refine blk_alloc ?_ _)); refine blk_put (cs := #[.slice none 0 0]) ?_ 0 _ rfl; (with_reducible repeat (first | refine blk_drewN ?_ _ | refine blk_drew ?_ | refine blk_alloc ?_ _)); exact BK309.out⟩
                  have n5_ : Aside0 (Below w.heap.size w (w128.setCell ⟨gb309, 0, none⟩ (.slice Ao127 y306.length co127))) := ⟨t6_⟩
                  (try clear HO308)
                  (try clear BK297)
                  (try clear BK298)
                  (try clear BK299)
                  (try clear BK309)
                  (try clear HB)
                  generalize (w128.setCell ⟨gb309, 0, none⟩ (.slice Ao127 y306.length co127)) = w135 at n0_ n1_ n2_ n3_ n4_ n5_ ⊢
                  have HO308 := n0_
                  have BK297 := n1_
                  have BK298 := n2_
                  have BK299 := n3_
                  have BK309 := n4_
                  have HB := n5_
                  clear n0_ n1_ n2_ n3_ n4_ n5_
                  replace HO308 := Aside0.mk (Kd.R_drew HO308.out)
                  replace BK297 := Aside0.mk (blk_drew BK297.out)
                  replace BK298 := Aside0.mk (blk_drew BK298.out)
                  replace BK299 := Aside0.mk (blk_drew BK299.out)
                  replace BK309 := Aside0.mk (blk_drew BK309.out)
                  replace HB := Aside0.mk (below_drew1 HB.out)
                  refine start_ (n := 13) (S := fun w' => w'.cell? ⟨gb297, 0, none⟩ = some (.slice A0_0 l0_0.length c0_0) ∧ w'.cell? ⟨gb298, 0, none⟩ = some (.int .i64 a1_0) ∧ w'.cell? ⟨gb298, 1, none⟩ = some (.string a1_1) ∧ w'.cell? ⟨gb298, 2, none⟩ = some (.string a1_2) ∧ w'.cell? ⟨gb298, 3, none⟩ = some (.string a1_3)) (ds := []) #[false, false, false, false, false, false, false, false, false, false, false, false, false] (by kernel_rfl) rfl rfl ⟨bc0 BK297, bc0 BK298, bc1 BK298, bc2 BK298, bc3 BK298⟩ (fun hHeld => ?_); refine with_tabW spec_PutRaw.tab9 spec_PutRaw.bits9 (fun HT_ HW_ => ?_)
                  generalize w135.drew = w136 at HO308 BK297 BK298 BK299 BK309 HB hHeld ⊢
                  refine pure_ (i := 1) (N := some 50) (v := ?_) (a' := ?_) #[false, true, false, false, false, false, false, false, false, false, false, false, false] rfl rfl (any_of HT_.out (by kernel_rfl)) (fun _ _ _ h => h) (Or.inl ⟨by rfl, ?_⟩) ?_ ?_
                  rotate_left
                  · intro w'
                    go_simp
                    with_reducible rfl
                  rotate_left
                  · simp only [Act.put, List.setIfInBounds_toArray, List.set_cons_zero, List.set_cons_succ, i64_w, i32_w]
                    rfl
                  refine pure_ (i := 4) (N := some 53) (v := ?_) (a' := ?_) #[false, true, false, false, true, false, false, false, false, false, false, false, false] rfl rfl (any_of HT_.out (by kernel_rfl)) (fun _ _ _ h => h) (Or.inl ⟨by rfl, ?_⟩) ?_ ?_
                  rotate_left
                  · intro w'
                    go_simp
                    with_reducible rfl
                  rotate_left
                  · simp only [Act.put, List.setIfInBounds_toArray, List.set_cons_zero, List.set_cons_succ, i64_w, i32_w]
                    rfl
                  refine pure_ (i := 7) (N := some 56) (v := ?_) (a' := ?_) #[false, true, false, false, true, false, false, true, false, false, false, false, false] rfl rfl (any_of HT_.out (by kernel_rfl)) (fun _ _ _ h => h) (Or.inl ⟨by rfl, ?_⟩) ?_ ?_
                  rotate_left
                  · intro w'
                    go_simp
                    with_reducible rfl
                  rotate_left
                  · simp only [Act.put, List.setIfInBounds_toArray, List.set_cons_zero, List.set_cons_succ, i64_w, i32_w]
                    rfl
                  refine take_ (i := 0) (N := some 49) (v := ?_) (a' := ?_) #[true, true, false, false, true, false, false, true, false, false, false, false, false] rfl rfl (take_ofW HT_.out HW_.out (by kernel_rfl)) (fun _ _ _ h => h) (Or.inl ⟨by rfl, ?_⟩) hHeld ?_ ?_
                  rotate_left
                  · rintro w' ⟨s0, s1, s2, s3, s4⟩
                    go_simp
                    with_reducible rfl
                  rotate_left
                  · simp only [Act.put, List.setIfInBounds_toArray, List.set_cons_zero, List.set_cons_succ, i64_w, i32_w]
                    rfl
                  refine take_ (i := 2) (N := some 51) (v := ?_) (a' := ?_) #[true, true, true, false, true, false, false, true, false, false, false, false, false] rfl rfl (take_ofW HT_.out HW_.out (by kernel_rfl)) (fun _ _ _ h => h) (Or.inl ⟨by rfl, ?_⟩) hHeld ?_ ?_
                  rotate_left
                  · rintro w' ⟨s0, s1, s2, s3, s4⟩
                    go_simp
                    with_reducible rfl
                  rotate_left
                  · simp only [Act.put, List.setIfInBounds_toArray, List.set_cons_zero, List.set_cons_succ, i64_w, i32_w]
                    rfl
                  refine take_ (i := 3) (N := some 52) (v := ?_) (a' := ?_) #[true, true, true, true, true, false, false, true, false, false, false, false, false] rfl rfl (take_ofW HT_.out HW_.out (by kernel_rfl)) (fun _ _ _ h => h) (Or.inl ⟨by rfl, ?_⟩) hHeld ?_ ?_
                  rotate_left
                  · rintro w' ⟨s0, s1, s2, s3, s4⟩
                    go_simp
                    with_reducible rfl
                  rotate_left
                  · simp only [Act.put, List.setIfInBounds_toArray, List.set_cons_zero, List.set_cons_succ, i64_w, i32_w]
                    rfl
                  refine take_ (i := 5) (N := some 54) (v := ?_) (a' := ?_) #[true, true, true, true, true, true, false, true, false, false, false, false, false] rfl rfl (take_ofW HT_.out HW_.out (by kernel_rfl)) (fun _ _ _ h => h) (Or.inl ⟨by rfl, ?_⟩) hHeld ?_ ?_
                  rotate_left
                  · rintro w' ⟨s0, s1, s2, s3, s4⟩
                    go_simp
                    with_reducible rfl
                  rotate_left
                  · simp only [Act.put, List.setIfInBounds_toArray, List.set_cons_zero, List.set_cons_succ, i64_w, i32_w]
                    rfl
                  refine take_ (i := 8) (N := some 57) (v := ?_) (a' := ?_) #[true, true, true, true, true, true, false, true, true, false, false, false, false] rfl rfl (take_ofW HT_.out HW_.out (by kernel_rfl)) (fun _ _ _ h => h) (Or.inl ⟨by rfl, ?_⟩) hHeld ?_ ?_
                  rotate_left
                  · rintro w' ⟨s0, s1, s2, s3, s4⟩
                    go_simp
                    with_reducible rfl
                  rotate_left
                  · simp only [Act.put, List.setIfInBounds_toArray, List.set_cons_zero, List.set_cons_succ, i64_w, i32_w]
                    rfl
                  refine one_ (i := 6) (N := some 55) #[true, true, true, true, true, true, true, true, true, false, false, false, false] rfl rfl (one_of HT_.out (by kernel_rfl)) (by decide) (fun K hK => ?_)
                  refine goes_ Try.func87 (by kernel_rfl) rfl #[.agg #[.slice A0_0 l0_0.length c0_0], .string a1_1] (by rfl) rfl rfl t1_ ?_
                  with_reducible refine (spec_l03Text.calls kj3 _ _ l0_0 a1_1 t314 _ ?side1 ?side2 A92.out).mono ?_
                  (case side1 => exact cB HR0_0 HB)
                  (case side2 => exact HC0_0.out)
                  rintro e w137 ⟨rfl, hb⟩
                  refine ⟨_, rfl, ?_⟩
                  replace HO308 := Aside0.mk (Kd.R_below t20_ hb)
                  replace BK297 := bkN BK297 hb
                  replace BK298 := bkN BK298 hb
                  replace BK299 := bkN BK299 hb
                  replace BK309 := bkN BK309 hb
                  replace HB := Aside0.mk (below_step t6_ hb)
                  (try clear hb)
                  (try clear hb2)
                  (try clear hk)
                  (try clear hi)
                  refine hK.out _ _ ⟨bc0 BK297, bc0 BK298, bc1 BK298, bc2 BK298, bc3 BK298⟩ (fun hHeld => ?_)
                  clear hK K
                  refine norm_ (a' := ?_) ?_ ?_
                  rotate_left
                  · show Act.put _ (some 55) _ = _
                    simp only [Act.put, List.setIfInBounds_toArray, List.set_cons_zero, List.set_cons_succ, i64_w, i32_w]
                    rfl
                  refine pure_ (i := 9) (N := some 58) (v := ?_) (a' := ?_) #[true, true, true, true, true, true, true, true, true, true, false, false, false] rfl rfl (any_of HT_.out (by kernel_rfl)) (fun _ _ _ h => h) (Or.inl ⟨by rfl, ?_⟩) ?_ ?_
                  rotate_left
                  · intro w'
                    go_simp
                    with_reducible rfl
                  rotate_left
                  · simp only [Act.put, List.setIfInBounds_toArray, List.set_cons_zero, List.set_cons_succ, i64_w, i32_w]
                    rfl
                  refine pure_ (i := 10) (N := some 59) (v := ?_) (a' := ?_) #[true, true, true, true, true, true, true, true, true, true, true, false, false] rfl rfl (any_of HT_.out (by kernel_rfl)) (fun _ _ _ h => h) (Or.inl ⟨by rfl, ?_⟩) ?_ ?_
                  rotate_left
                  · intro w'
                    go_simp
                    with_reducible rfl
                  rotate_left
                  · simp only [Act.put, List.setIfInBounds_toArray, List.set_cons_zero, List.set_cons_succ, i64_w, i32_w]
                    rfl
                  refine one_ (i := 11) (N := some 60) #[true, true, true, true, true, true, true, true, true, true, true, true, false] rfl rfl (one_of HT_.out (by kernel_rfl)) (by decide) (fun K hK => ?_)
                  refine goes_ Try.func79 (by kernel_rfl) rfl #[.agg #[.slice A0_0 l0_0.length c0_0], .agg #[.string a1_1, .string (t314 ++ a1_3)]] (by rfl) rfl rfl t1_ ?_
                  with_reducible refine (spec_l03Put.calls kj3 _ _ l0_0 a1_1 (t314 ++ a1_3) t315 _ ?side1 ?side2 A94.out).mono ?_
                  (case side1 => exact cB HR0_0 HB)
                  (case side2 => exact HC0_0.out)
                  rintro e w138 ⟨v316, rfl, ho0, hb⟩
                  refine ⟨_, rfl, ?_⟩
                  have HO317 := Aside0.mk (Kd.R_lower (Kd.R_new' ho0 (Kd.R_lt t20_)) (below_size t6_))
                  replace HO308 := Aside0.mk (Kd.R_elder' t20_ (Kd.R_base ho0) hb)
                  replace BK297 := bkN BK297 hb
                  replace BK298 := bkN BK298 hb
                  replace BK299 := bkN BK299 hb
                  replace BK309 := bkN BK309 hb
                  replace HB := Aside0.mk (below_step t6_ hb)
                  (try clear hb)
                  (try clear hb2)
                  (try clear hk)
                  (try clear hi)
                  (try clear ho0)
                  obtain ⟨Ao139, co139, eo139⟩ := Kd.R_slice HO317.out
                  (first | subst eo139 | (injection eo139 with f1_ f2_ f3_; have f4_ := f1_.symm; have f5_ := f3_.symm; clear f1_ f2_ f3_; subst f4_; subst f5_))
                  refine hK.out _ _ ⟨bc0 BK297, bc0 BK298, bc1 BK298, bc2 BK298, bc3 BK298⟩ (fun hHeld => ?_)
                  clear hK K
                  refine norm_ (a' := ?_) ?_ ?_
                  rotate_left
                  · show Act.put _ (some 60) _ = _
                    simp only [Act.put, List.setIfInBounds_toArray, List.set_cons_zero, List.set_cons_succ, i64_w, i32_w]
                    rfl
                  refine one_ (i := 12) (N := none) #[true, true, true, true, true, true, true, true, true, true, true, true, true] rfl rfl (one_of HT_.out (by kernel_rfl)) (by decide) (fun K hK => ?_)
                  have hs140 : w138.cell? ⟨gb309, 0, none⟩ = some (.slice Ao127 y306.length co127) := bc0 BK309
                  have hfs140 := bf BK309 0
                  have hns140_0 := NB297_309.out
                  have hns140_1 := NB298_309.out
                  have hns140_2 := NB299_309.out
                  have hms140_0 := NB309_297.out
                  have hms140_1 := NB309_298.out
                  have hms140_2 := NB309_299.out
                  refine skip_ (w1 := ?_) (by rfl) rfl ?_ ?_
                  rotate_left
                  · go_simp
                    rfl
                  refine hK.out _ _ ⟨((cell_far (p := ⟨gb309, _, none⟩) NB297_309.out _).trans (hHeld.1)), ((cell_far (p := ⟨gb309, _, none⟩) NB298_309.out _).trans (hHeld.2.1)), ((cell_far (p := ⟨gb309, _, none⟩) NB298_309.out _).trans (hHeld.2.2.1)), ((cell_far (p := ⟨gb309, _, none⟩) NB298_309.out _).trans (hHeld.2.2.2.1)), ((cell_far (p := ⟨gb309, _, none⟩) NB298_309.out _).trans (hHeld.2.2.2.2))⟩ (fun hHeld => ?_)
                  clear hK K
                  refine done_ (done_of HT_.out (by kernel_rfl)) ?_
                  have hcz141_0 := bc0 BK309
                  have hfz141_0 := bf BK309 0
                  try go_wp2_with (first | ((with_reducible refine gate_callee (f := 56) rfl ?_); refine goesL_ (some 89) rfl rfl Try.func56 (by kernel_rfl) rfl #[.agg #[.slice Ao139 t315.length co139]] rfl t1_ ?_; (with_reducible refine (spec_DiskOk.calls kj3 _ _ t315 false _ ?side1 ?side2 A95.out).mono ?_); (case side1 => refine (Kd.R_reads' (e := 71) (base := w.heap.size) (ok := fun k_ => (True ∧ some k_ ≠ (.slice Ao127 y306.length co127 : Value).ownBlock)) (n := t315.length) (c := co139) ?_).2.2; exact (by (with_reducible repeat (first | apply Kd.R_alloc | apply Kd.R_drewN | apply Kd.R_drew)); exact (Kd.R_mono (Kd.R_far (p := ⟨gb309, 0, none⟩) (Kd.R_types HO317.out BK309.out (by decide)) (fun _ hk => hk.2) (.slice Ao139 t315.length co139)) (fun _ h_ => h_.1)))); (case side2 => exact (Kd.R_reads' HO317.out).2.1); rintro e w142 ⟨rfl, hb⟩; refine ⟨_, rfl, ?_⟩; replace HO308 := Aside0.mk (Kd.R_below (by (with_reducible repeat (first | apply Kd.R_alloc | apply Kd.R_drewN | apply Kd.R_drew)); exact (Kd.R_mono (Kd.R_far (p := ⟨gb309, 0, none⟩) (Kd.R_types HO308.out BK309.out (by decide)) (fun _ hk => hk.2) (.slice Ao139 t315.length co139)) (fun _ h_ => h_.1))) hb); replace HO317 := Aside0.mk (Kd.R_below (by (with_reducible repeat (first | apply Kd.R_alloc | apply Kd.R_drewN | apply Kd.R_drew)); exact (Kd.R_mono (Kd.R_far (p := ⟨gb309, 0, none⟩) (Kd.R_types HO317.out BK309.out (by decide)) (fun _ hk => hk.2) (.slice Ao139 t315.length co139)) (fun _ h_ => h_.1))) hb); replace BK297 := bkF BK297 NB297_309 hb; replace BK298 := bkF BK298 NB298_309 hb; replace BK299 := bkF BK299 NB299_309 hb; replace BK309 := Aside0.mk (blk_below (g := gb309) (o := .cells #[.slice Ao139 t315.length co139] 30 (0, 0)) (by (with_reducible repeat (first | refine blk_drewN ?_ _ | refine blk_drew ?_ | refine blk_alloc ?_ _)); refine blk_put (cs := #[.slice Ao127 y306.length co127]) ?_ 0 _ rfl; (with_reducible repeat (first | refine blk_drewN ?_ _ | refine blk_drew ?_ | refine blk_alloc ?_ _)); exact BK309.out) hb); replace HB := Aside0.mk (below_step t6_ hb); (try clear hb); (try clear hb2); (try clear hk); (try clear hi); have hcz143_0 := bc0 BK299; have hfz143_0 := bf BK299 0))
                  refine bodyPost_ret (results_ct rfl _ _ gb299 30 #[.slice none 0 0] (0, 0) _ rfl (by (with_reducible repeat (first | refine blk_drewN ?_ _ | refine blk_drew ?_ | refine blk_alloc ?_ _)); refine blk_put (cs := #[.slice none 0 0]) ?_ 0 _ rfl; (with_reducible repeat (first | refine blk_drewN ?_ _ | refine blk_drew ?_ | refine blk_alloc ?_ _)); exact BK299.out) Try.underlying30 rfl (by kernel_rfl)) rfl ?_
                  exact ⟨_, by first | rfl | (simp [errW_none, errW_some] <;> rfl) | (simp [*, errW_none, errW_some] <;> rfl), by first | exact Kd.R_nil _ _ _ _ _ | exact Kd.N_nil _ _ _ _ _ | exact Kd.V_nil _ _ _ _ _ | exact Kd.Q_nil _ _ _ _ _ | exact Kd.S_nil _ _ _ _ _, t6_⟩
              · rw [if_neg c93] at H
                exact absurd H (by simp)
            · rw [if_neg c91] at H
              have c91b0 : (a1_0 == 2) = false := beq_eq_false_iff_ne.mpr c91
              have c91b1 : (a1_0 != 2) = true := bne_iff_ne.mpr c91
              by_cases c144 : a1_0 = 3
              · rw [if_pos c144] at H
                have c144b0 : (a1_0 == 3) = true := beq_iff_eq.mpr c144
                have c144b1 : (a1_0 != 3) = false := bne_eq_false_iff_eq.mpr c144
                clear c144
                by_cases c145 : a1_2.toList = a1_1.toList
                · rw [if_pos c145] at H
                  have c145b0 : (a1_2.toList == a1_1.toList) = true := beq_iff_eq.mpr c145
                  have c145b1 : (a1_2.toList != a1_1.toList) = false := bne_eq_false_iff_eq.mpr c145
                  clear c145
                  replace H := Option.bind_eq_some_iff.mp H
                  obtain ⟨t319, A1460, H⟩ := H
                  replace H : (if t319 = true then (some (y306, true)) else (some (([] : List (S71)), false))) = some (r1, r2) := H
                  have A146 := Aside0.mk A1460
                  clear A1460
                  by_cases c147 : t319 = true
                  · subst c147
                    have H1 : (some (y306, true)) = some (r1, r2) := by rw [if_pos rfl] at H; exact H
                    clear H
                    have H := H1
                    clear H1
                    simp only [Option.some.injEq, Prod.mk.injEq] at H
                    obtain ⟨rfl, rfl⟩ := H
                    go_wp2_with (first | ((with_reducible refine gate_dst (N := 31) rfl ?_); refine Kd.R_lit k71 _ 71 ?hg (N := 31) ?hd (xs := ([] : List (S71))) (inner := []) (ok := fun _ => True) (okp := fun _ => True) ?hr ?hp (fun _ hk => hk) trivial (Below.refl _ _) (Nat.le_refl _) (by simp) ?_; (case hd => rfl); (case hg => rfl); (case hr => first | (go_simp; done) | (go_simp; rfl)); (case hp => exact (Reps.none _ _)); intro v304 w148 ho149 hb hg_ hnew_; clear hg_ hnew_; (first | rw [← Ny303.out] at ho149 | (simp only [Int.reduceToNat] at ho149; rw [← Ny303.out] at ho149)); have HO305 := Aside0.mk (Kd.R_lower ho149 (below_size t2_)); replace BK297 := bkN BK297 hb; replace BK298 := bkN BK298 hb; replace BK299 := bkN BK299 hb; replace HB := Aside0.mk (below_step t2_ hb); clear hb ho149; have hnb150 := NB297_298.out; have hnc150 := NB298_297.out; have hnb151 := NB297_299.out; have hnc151 := NB299_297.out; have hcz152_0 := bc0 BK297; have hfz152_0 := bf BK297 0) | ((with_reducible refine gate_builtin (b := .append) (xs := #[.tmp 31, .tmp 33]) rfl ?_); at_builtin; refine Kd.R_append_rows k71 (w0 := w) w.heap.size rfl (.tmp 31) (.tmp 33) 28 71 (.agg #[(.string ⟨#[]⟩), (.string ⟨#[]⟩)]) 32 rfl Try.underlying28 info71 rfl (by decide) (by omega) v304 y303 l0_0 _ _ _ (fun _ => True) (fun _ => False) rfl rfl ?aO ?aR (fun _ _ h => h) (fun _ h => h.elim) ?aF ?aB ?aS ?aL ?_; (case aR => exact cB HR0_0 HB); (case aB => exact t2_); (case aF => exact (fun _ _ => trivial)); (case aO => exact t46_); (case aS => exact (below_size t2_)); (case aL => have := LMc45.out; omega); intro v307 w153 ho hb hg hat; rw [← Ny306.out] at ho; have n0_ := Aside0.mk (blk_grown (g := gb297) (o := .cells #[.slice A0_0 l0_0.length c0_0] 30 (0, 0)) t37_ hg (Kd.R_ne HO305.out BK297.out (by decide))); have n1_ := Aside0.mk (blk_grown (g := gb298) (o := .cells #[.int .i64 a1_0, .string a1_1, .string a1_2, .string a1_3] 65 (0, 0)) t38_ hg (Kd.R_ne HO305.out BK298.out (by decide))); have n2_ := Aside0.mk (blk_grown (g := gb299) (o := .cells #[.slice none 0 0] 30 (0, 0)) t39_ hg (Kd.R_ne HO305.out BK299.out (by decide))); have n3_ := Aside0.mk (hb); have n4_ := Aside0.mk (ho); clear BK297; clear BK298; clear BK299; clear HB; clear HO305; have BK297 := n0_; have BK298 := n1_; have BK299 := n2_; have HB := n3_; have HO308 := n4_; clear n0_ n1_ n2_ n3_ n4_; clear ho hb hg hat; obtain ⟨Ao154, co154, eo154⟩ := Kd.R_slice HO308.out; subst eo154) | ((with_reducible refine gate_dst (N := 7) rfl ?_); refine boxE (N := 7) (cs := #[.slice none 0 0]) (t := 30) (h := ?_); intro gb309 hg w155 hbox hb; replace HO308 := Aside0.mk (Kd.R_below t20_ hb); have BK309 := Aside0.mk (hbox); have GW309 := Aside0.mk ((t14_ : w.heap.size ≤ gb309)); have GE309 := Aside0.mk ((t14_ : w.heap.size ≤ gb309)); replace HB := Aside0.mk (below_step t2_ hb); have NB297_309 := nbL BK297 hg; have NB309_297 := nbG BK297 hg; replace BK297 := bkN BK297 hb; have NB298_309 := nbL BK298 hg; have NB309_298 := nbG BK298 hg; replace BK298 := bkN BK298 hb; have NB299_309 := nbL BK299 hg; have NB309_299 := nbG BK299 hg; replace BK299 := bkN BK299 hb; clear hb hbox hg; have hnb156 := NB309_297.out; have hnc156 := NB297_309.out; have hnb157 := NB309_298.out; have hnc157 := NB298_309.out; have hnb158 := NB309_299.out; have hnc158 := NB299_309.out; have hcz159_0 := bc0 BK309; have hfz159_0 := bf BK309 0; have hnb160 := NB298_299.out; have hnc160 := NB299_298.out; have hcz161_0 := bc0 BK298; have hcz161_1 := bc1 BK298; have hcz161_2 := bc2 BK298; have hcz161_3 := bc3 BK298; have hfz161_0 := bf BK298 0; have hfz161_1 := bf BK298 1; have hfz161_2 := bf BK298 2; have hfz161_3 := bf BK298 3) | ((with_reducible refine gate_callee (f := 56) rfl ?_); refine goesL_ (some 89) rfl rfl Try.func56 (by kernel_rfl) rfl #[.agg #[.slice Ao154 y306.length co154]] rfl t1_ ?_; (with_reducible refine (spec_DiskOk.calls kj3 _ _ y306 true _ ?side1 ?side2 A146.out).mono ?_); (case side1 => refine (Kd.R_reads' (e := 71) (base := w.heap.size) (ok := fun k_ => True) (n := y306.length) (c := co154) ?_).2.2; exact (by (with_reducible repeat (first | apply Kd.R_alloc | apply Kd.R_drewN | apply Kd.R_drew)); exact (Kd.R_mono (Kd.R_far (p := ⟨gb309, 0, none⟩) (Kd.R_types HO308.out BK309.out (by decide)) (fun _ hk => hk.2) (.slice Ao154 y306.length co154)) (fun _ h_ => h_.1)))); (case side2 => exact (Kd.R_reads' HO308.out).2.1); rintro e w162 ⟨rfl, hb⟩; refine ⟨_, rfl, ?_⟩; replace HO308 := Aside0.mk (Kd.R_below (by (with_reducible repeat (first | apply Kd.R_alloc | apply Kd.R_drewN | apply Kd.R_drew)); exact (Kd.R_mono (Kd.R_far (p := ⟨gb309, 0, none⟩) (Kd.R_types HO308.out BK309.out (by decide)) (fun _ hk => hk.2) (.slice Ao154 y306.length co154)) (fun _ h_ => h_.1))) hb); replace BK297 := bkF BK297 NB297_309 hb; replace BK298 := bkF BK298 NB298_309 hb; replace BK299 := bkF BK299 NB299_309 hb; replace BK309 := Aside0.mk (blk_below (g := gb309) (o := .cells #[.slice Ao154 y306.length co154] 30 (0, 0)) (by (with_reducible repeat (first | refine blk_drewN ?_ _ | refine blk_drew ?_ | refine blk_alloc ?_ _)); refine blk_put (cs := #[.slice none 0 0]) ?_ 0 _ rfl; (with_reducible repeat (first | refine blk_drewN ?_ _ | refine blk_drew ?_ | refine blk_alloc ?_ _)); exact BK309.out) hb); replace HB := Aside0.mk (below_step t6_ hb); (try clear hb); (try clear hb2); (try clear hk); (try clear hi); have hcz163_0 := bc0 BK309; have hfz163_0 := bf BK309 0; have hcz164_0 := bc0 BK299; have hfz164_0 := bf BK299 0))
                    refine bodyPost_ret (results_ct rfl _ _ gb299 30 #[.slice Ao154 y306.length co154] (0, 0) _ rfl (by (with_reducible repeat (first | refine blk_drewN ?_ _ | refine blk_drew ?_ | refine blk_alloc ?_ _)); refine blk_put (cs := #[.slice none 0 0]) ?_ 0 _ rfl; (with_reducible repeat (first | refine blk_drewN ?_ _ | refine blk_drew ?_ | refine blk_alloc ?_ _)); exact BK299.out) Try.underlying30 rfl (by kernel_rfl)) rfl ?_
                    exact ⟨_, by first | rfl | (simp [errW_none, errW_some] <;> rfl) | (simp [*, errW_none, errW_some] <;> rfl), by (with_reducible repeat (first | apply Kd.R_alloc | apply Kd.R_drewN | apply Kd.R_drew)); exact Kd.R_mono (Kd.R_far (p := ⟨gb299, 0, none⟩) (Kd.R_types HO308.out BK299.out (by decide)) (fun _ hk => hk.2) (.slice Ao154 y306.length co154)) (fun _ hk => trivial), t6_⟩
                  · replace c147 := Bool.eq_false_iff.mpr c147
                    subst c147
                    have H1 : (some (([] : List (S71)), false)) = some (r1, r2) := by rw [if_neg (show ¬ (false = true) by decide)] at H; exact H
                    clear H
                    have H := H1
                    clear H1
                    simp only [Option.some.injEq, Prod.mk.injEq] at H
                    obtain ⟨rfl, rfl⟩ := H
                    go_wp2_with (first | ((with_reducible refine gate_dst (N := 31) rfl ?_); refine Kd.R_lit k71 _ 71 ?hg (N := 31) ?hd (xs := ([] : List (S71))) (inner := []) (ok := fun _ => True) (okp := fun _ => True) ?hr ?hp (fun _ hk => hk) trivial (Below.refl _ _) (Nat.le_refl _) (by simp) ?_; (case hd => rfl); (case hg => rfl); (case hr => first | (go_simp; done) | (go_simp; rfl)); (case hp => exact (Reps.none _ _)); intro v304 w165 ho166 hb hg_ hnew_; clear hg_ hnew_; (first | rw [← Ny303.out] at ho166 | (simp only [Int.reduceToNat] at ho166; rw [← Ny303.out] at ho166)); have HO305 := Aside0.mk (Kd.R_lower ho166 (below_size t2_)); replace BK297 := bkN BK297 hb; replace BK298 := bkN BK298 hb; replace BK299 := bkN BK299 hb; replace HB := Aside0.mk (below_step t2_ hb); clear hb ho166; have hnb167 := NB297_298.out; have hnc167 := NB298_297.out; have hnb168 := NB297_299.out; have hnc168 := NB299_297.out; have hcz169_0 := bc0 BK297; have hfz169_0 := bf BK297 0) | ((with_reducible refine gate_builtin (b := .append) (xs := #[.tmp 31, .tmp 33]) rfl ?_); at_builtin; refine Kd.R_append_rows k71 (w0 := w) w.heap.size rfl (.tmp 31) (.tmp 33) 28 71 (.agg #[(.string ⟨#[]⟩), (.string ⟨#[]⟩)]) 32 rfl Try.underlying28 info71 rfl (by decide) (by omega) v304 y303 l0_0 _ _ _ (fun _ => True) (fun _ => False) rfl rfl ?aO ?aR (fun _ _ h => h) (fun _ h => h.elim) ?aF ?aB ?aS ?aL ?_; (case aR => exact cB HR0_0 HB); (case aB => exact t2_); (case aF => exact (fun _ _ => trivial)); (case aO => exact t46_); (case aS => exact (below_size t2_)); (case aL => have := LMc45.out; omega); intro v307 w170 ho hb hg hat; rw [← Ny306.out] at ho; have n0_ := Aside0.mk (blk_grown (g := gb297) (o := .cells #[.slice A0_0 l0_0.length c0_0] 30 (0, 0)) t37_ hg (Kd.R_ne HO305.out BK297.out (by decide))); have n1_ := Aside0.mk (blk_grown (g := gb298) (o := .cells #[.int .i64 a1_0, .string a1_1, .string a1_2, .string a1_3] 65 (0, 0)) t38_ hg (Kd.R_ne HO305.out BK298.out (by decide))); have n2_ := Aside0.mk (blk_grown (g := gb299) (o := .cells #[.slice none 0 0] 30 (0, 0)) t39_ hg (Kd.R_ne HO305.out BK299.out (by decide))); have n3_ := Aside0.mk (hb); have n4_ := Aside0.mk (ho); clear BK297; clear BK298; clear BK299; clear HB; clear HO305; have BK297 := n0_; have BK298 := n1_; have BK299 := n2_; have HB := n3_; have HO308 := n4_; clear n0_ n1_ n2_ n3_ n4_; clear ho hb hg hat; obtain ⟨Ao171, co171, eo171⟩ := Kd.R_slice HO308.out; subst eo171) | ((with_reducible refine gate_dst (N := 7) rfl ?_); refine boxE (N := 7) (cs := #[.slice none 0 0]) (t := 30) (h := ?_); intro gb309 hg w172 hbox hb; replace HO308 := Aside0.mk (Kd.R_below t20_ hb); have BK309 := Aside0.mk (hbox); have GW309 := Aside0.mk ((t14_ : w.heap.size ≤ gb309)); have GE309 := Aside0.mk ((t14_ : w.heap.size ≤ gb309)); replace HB := Aside0.mk (below_step t2_ hb); have NB297_309 := nbL BK297 hg; have NB309_297 := nbG BK297 hg; replace BK297 := bkN BK297 hb; have NB298_309 := nbL BK298 hg; have NB309_298 := nbG BK298 hg; replace BK298 := bkN BK298 hb; have NB299_309 := nbL BK299 hg; have NB309_299 := nbG BK299 hg; replace BK299 := bkN BK299 hb; clear hb hbox hg; have hnb173 := NB309_297.out; have hnc173 := NB297_309.out; have hnb174 := NB309_298.out; have hnc174 := NB298_309.out; have hnb175 := NB309_299.out; have hnc175 := NB299_309.out; have hcz176_0 := bc0 BK309; have hfz176_0 := bf BK309 0; have hnb177 := NB298_299.out; have hnc177 := NB299_298.out; have hcz178_0 := bc0 BK298; have hcz178_1 := bc1 BK298; have hcz178_2 := bc2 BK298; have hcz178_3 := bc3 BK298; have hfz178_0 := bf BK298 0; have hfz178_1 := bf BK298 1; have hfz178_2 := bf BK298 2; have hfz178_3 := bf BK298 3) | ((with_reducible refine gate_callee (f := 56) rfl ?_); refine goesL_ (some 89) rfl rfl Try.func56 (by kernel_rfl) rfl #[.agg #[.slice Ao171 y306.length co171]] rfl t1_ ?_; (with_reducible refine (spec_DiskOk.calls kj3 _ _ y306 false _ ?side1 ?side2 A146.out).mono ?_); (case side1 => refine (Kd.R_reads' (e := 71) (base := w.heap.size) (ok := fun k_ => True) (n := y306.length) (c := co171) ?_).2.2; exact (by (with_reducible repeat (first | apply Kd.R_alloc | apply Kd.R_drewN | apply Kd.R_drew)); exact (Kd.R_mono (Kd.R_far (p := ⟨gb309, 0, none⟩) (Kd.R_types HO308.out BK309.out (by decide)) (fun _ hk => hk.2) (.slice Ao171 y306.length co171)) (fun _ h_ => h_.1)))); (case side2 => exact (Kd.R_reads' HO308.out).2.1); rintro e w179 ⟨rfl, hb⟩; refine ⟨_, rfl, ?_⟩; replace HO308 := Aside0.mk (Kd.R_below (by (with_reducible repeat (first | apply Kd.R_alloc | apply Kd.R_drewN | apply Kd.R_drew)); exact (Kd.R_mono (Kd.R_far (p := ⟨gb309, 0, none⟩) (Kd.R_types HO308.out BK309.out (by decide)) (fun _ hk => hk.2) (.slice Ao171 y306.length co171)) (fun _ h_ => h_.1))) hb); replace BK297 := bkF BK297 NB297_309 hb; replace BK298 := bkF BK298 NB298_309 hb; replace BK299 := bkF BK299 NB299_309 hb; replace BK309 := Aside0.mk (blk_below (g := gb309) (o := .cells #[.slice Ao171 y306.length co171] 30 (0, 0)) (by (with_reducible repeat (first | refine blk_drewN ?_ _ | refine blk_drew ?_ | refine blk_alloc ?_ _)); refine blk_put (cs := #[.slice none 0 0]) ?_ 0 _ rfl; (with_reducible repeat (first | refine blk_drewN ?_ _ | refine blk_drew ?_ | refine blk_alloc ?_ _)); exact BK309.out) hb); replace HB := Aside0.mk (below_step t6_ hb); (try clear hb); (try clear hb2); (try clear hk); (try clear hi); have hcz180_0 := bc0 BK299; have hfz180_0 := bf BK299 0))
                    refine bodyPost_ret (results_ct rfl _ _ gb299 30 #[.slice none 0 0] (0, 0) _ rfl (by (with_reducible repeat (first | refine blk_drewN ?_ _ | refine blk_drew ?_ | refine blk_alloc ?_ _)); refine blk_put (cs := #[.slice none 0 0]) ?_ 0 _ rfl; (with_reducible repeat (first | refine blk_drewN ?_ _ | refine blk_drew ?_ | refine blk_alloc ?_ _)); exact BK299.out) Try.underlying30 rfl (by kernel_rfl)) rfl ?_
                    exact ⟨_, by first | rfl | (simp [errW_none, errW_some] <;> rfl) | (simp [*, errW_none, errW_some] <;> rfl), by first | exact Kd.R_nil _ _ _ _ _ | exact Kd.N_nil _ _ _ _ _ | exact Kd.V_nil _ _ _ _ _ | exact Kd.Q_nil _ _ _ _ _ | exact Kd.S_nil _ _ _ _ _, t6_⟩
                · rw [if_neg c145] at H
                  have c145b0 : (a1_2.toList == a1_1.toList) = false := beq_eq_false_iff_ne.mpr c145
                  have c145b1 : (a1_2.toList != a1_1.toList) = true := bne_iff_ne.mpr c145
                  replace H := Option.bind_eq_some_iff.mp H
                  obtain ⟨t320, A1810, H⟩ := H
                  replace H : (if 0 ≤ t300 then (if t300 < (l0_0.length : Int) then ((spec_l03Put.f kj3 t320 a1_2 ((rd_T71 l0_0 t300).f1)).bind fun t324 => ((spec_DiskOk.f kj3 t324).bind fun t327 => (if t327 = true then (some (t324, true)) else (some (([] : List (S71)), false))))) else (none)) else (none)) = some (r1, r2) := H
                  have A181 := Aside0.mk A1810
                  clear A1810
                  by_cases c182 : 0 ≤ t300
                  · rw [if_pos c182] at H
                    have c182b0 : decide (0 ≤ t300) = true := decide_eq_true c182
                    clear c182
                    by_cases c183 : t300 < (l0_0.length : Int)
                    · rw [if_pos c183] at H
                      have c183b0 : decide (t300 < (l0_0.length : Int)) = true := decide_eq_true c183
                      clear c183
                      replace H := Option.bind_eq_some_iff.mp H
                      obtain ⟨t324, A1840, H⟩ := H
                      replace H : ((spec_DiskOk.f kj3 t324).bind fun t327 => (if t327 = true then (some (t324, true)) else (some (([] : List (S71)), false)))) = some (r1, r2) := H
                      have A184 := Aside0.mk A1840
                      clear A1840
                      replace H := Option.bind_eq_some_iff.mp H
                      obtain ⟨t327, A1850, H⟩ := H
                      replace H : (if t327 = true then (some (t324, true)) else (some (([] : List (S71)), false))) = some (r1, r2) := H
                      have A185 := Aside0.mk A1850
                      clear A1850
                      by_cases c186 : t327 = true
                      · subst c186
                        have H1 : (some (t324, true)) = some (r1, r2) := by rw [if_pos rfl] at H; exact H
                        clear H
                        have H := H1
                        clear H1
                        simp only [Option.some.injEq, Prod.mk.injEq] at H
                        obtain ⟨rfl, rfl⟩ := H
                        try go_wp2_with (first | ((with_reducible refine gate_dst (N := 31) rfl ?_); refine Kd.R_lit k71 _ 71 ?hg (N := 31) ?hd (xs := ([] : List (S71))) (inner := []) (ok := fun _ => True) (okp := fun _ => True) ?hr ?hp (fun _ hk => hk) trivial (Below.refl _ _) (Nat.le_refl _) (by simp) ?_; (case hd => rfl); (case hg => rfl); (case hr => first | (go_simp; done) | (go_simp; rfl)); (case hp => exact (Reps.none _ _)); intro v304 w187 ho188 hb hg_ hnew_; clear hg_ hnew_; (first | rw [← Ny303.out] at ho188 | (simp only [Int.reduceToNat] at ho188; rw [← Ny303.out] at ho188)); have HO305 := Aside0.mk (Kd.R_lower ho188 (below_size t2_)); replace BK297 := bkN BK297 hb; replace BK298 := bkN BK298 hb; replace BK299 := bkN BK299 hb; replace HB := Aside0.mk (below_step t2_ hb); clear hb ho188; have hnb189 := NB297_298.out; have hnc189 := NB298_297.out; have hnb190 := NB297_299.out; have hnc190 := NB299_297.out; have hcz191_0 := bc0 BK297; have hfz191_0 := bf BK297 0) | ((with_reducible refine gate_builtin (b := .append) (xs := #[.tmp 31, .tmp 33]) rfl ?_); at_builtin; refine Kd.R_append_rows k71 (w0 := w) w.heap.size rfl (.tmp 31) (.tmp 33) 28 71 (.agg #[(.string ⟨#[]⟩), (.string ⟨#[]⟩)]) 32 rfl Try.underlying28 info71 rfl (by decide) (by omega) v304 y303 l0_0 _ _ _ (fun _ => True) (fun _ => False) rfl rfl ?aO ?aR (fun _ _ h => h) (fun _ h => h.elim) ?aF ?aB ?aS ?aL ?_; (case aR => exact cB HR0_0 HB); (case aB => exact t2_); (case aF => exact (fun _ _ => trivial)); (case aO => exact t46_); (case aS => exact (below_size t2_)); (case aL => have := LMc45.out; omega); intro v307 w192 ho hb hg hat; rw [← Ny306.out] at ho; have n0_ := Aside0.mk (blk_grown (g := gb297) (o := .cells #[.slice A0_0 l0_0.length c0_0] 30 (0, 0)) t37_ hg (Kd.R_ne HO305.out BK297.out (by decide))); have n1_ := Aside0.mk (blk_grown (g := gb298) (o := .cells #[.int .i64 a1_0, .string a1_1, .string a1_2, .string a1_3] 65 (0, 0)) t38_ hg (Kd.R_ne HO305.out BK298.out (by decide))); have n2_ := Aside0.mk (blk_grown (g := gb299) (o := .cells #[.slice none 0 0] 30 (0, 0)) t39_ hg (Kd.R_ne HO305.out BK299.out (by decide))); have n3_ := Aside0.mk (hb); have n4_ := Aside0.mk (ho); clear BK297; clear BK298; clear BK299; clear HB; clear HO305; have BK297 := n0_; have BK298 := n1_; have BK299 := n2_; have HB := n3_; have HO308 := n4_; clear n0_ n1_ n2_ n3_ n4_; clear ho hb hg hat; obtain ⟨Ao193, co193, eo193⟩ := Kd.R_slice HO308.out; subst eo193) | ((with_reducible refine gate_dst (N := 7) rfl ?_); refine boxE (N := 7) (cs := #[.slice none 0 0]) (t := 30) (h := ?_); intro gb309 hg w194 hbox hb; replace HO308 := Aside0.mk (Kd.R_below t20_ hb); have BK309 := Aside0.mk (hbox); have GW309 := Aside0.mk ((t14_ : w.heap.size ≤ gb309)); have GE309 := Aside0.mk ((t14_ : w.heap.size ≤ gb309)); replace HB := Aside0.mk (below_step t2_ hb); have NB297_309 := nbL BK297 hg; have NB309_297 := nbG BK297 hg; replace BK297 := bkN BK297 hb; have NB298_309 := nbL BK298 hg; have NB309_298 := nbG BK298 hg; replace BK298 := bkN BK298 hb; have NB299_309 := nbL BK299 hg; have NB309_299 := nbG BK299 hg; replace BK299 := bkN BK299 hb; clear hb hbox hg; have hnb195 := NB309_297.out; have hnc195 := NB297_309.out; have hnb196 := NB309_298.out; have hnc196 := NB298_309.out; have hnb197 := NB309_299.out; have hnc197 := NB299_309.out; have hcz198_0 := bc0 BK309; have hfz198_0 := bf BK309 0; have hnb199 := NB298_299.out; have hnc199 := NB299_298.out; have hcz200_0 := bc0 BK298; have hcz200_1 := bc1 BK298; have hcz200_2 := bc2 BK298; have hcz200_3 := bc3 BK298; have hfz200_0 := bf BK298 0; have hfz200_1 := bf BK298 1; have hfz200_2 := bf BK298 2; have hfz200_3 := bf BK298 3))
                        have n0_ : Aside0 (Kd.R k71 71 (w194.setCell ⟨gb309, 0, none⟩ (.slice Ao193 y306.length co193)) w.heap.size (fun _ => True) (.slice Ao193 y306.length co193) y306) := ⟨by (with_reducible repeat (first | apply Kd.R_alloc | apply Kd.R_drewN | apply Kd.R_drew)); exact Kd.R_mono (Kd.R_far (p := ⟨gb309, 0, none⟩) (Kd.R_types HO308.out BK309.out (by decide)) (fun _ hk => hk.2) (.slice Ao193 y306.length co193)) (fun _ hk => trivial)⟩
                        have n1_ : Aside0 ((w194.setCell ⟨gb309, 0, none⟩ (.slice Ao193 y306.length co193)).heap[gb297]? = some (.cells #[.slice A0_0 l0_0.length c0_0] 30 (0, 0))) := ⟨by (with_reducible repeat (first | refine blk_drewN ?_ _ | refine blk_drew ?_ | refine blk_alloc ?_ _)); refine blk_far ?_ NB297_309.out _; (with_reducible repeat (first | refine blk_drewN ?_ _ | refine blk_drew ?_ | refine blk_alloc ?_ _)); exact BK297.out⟩
                        have n2_ : Aside0 ((w194.setCell ⟨gb309, 0, none⟩ (.slice Ao193 y306.length co193)).heap[gb298]? = some (.cells #[.int .i64 a1_0, .string a1_1, .string a1_2, .string a1_3] 65 (0, 0))) := ⟨by (with_reducible repeat (first | refine blk_drewN ?_ _ | refine blk_drew ?_ | refine blk_alloc ?_ _)); refine blk_far ?_ NB298_309.out _; (with_reducible repeat (first | refine blk_drewN ?_ _ | refine blk_drew ?_ | refine blk_alloc ?_ _)); exact BK298.out⟩
                        have n3_ : Aside0 ((w194.setCell ⟨gb309, 0, none⟩ (.slice Ao193 y306.length co193)).heap[gb299]? = some (.cells #[.slice none 0 0] 30 (0, 0))) := ⟨by (with_reducible repeat (first | refine blk_drewN ?_ _ | refine blk_drew ?_ | refine blk_alloc ?_ _)); refine blk_far ?_ NB299_309.out _; (with_reducible repeat (first | refine blk_drewN ?_ _ | refine blk_drew ?_ | refine blk_alloc ?_ _)); exact BK299.out⟩
                        have n4_ : Aside0 ((w194.setCell ⟨gb309, 0, none⟩ (.slice Ao193 y306.length co193)).heap[gb309]? = some (.cells #[.slice Ao193 y306.length co193] 30 (0, 0))) := ⟨by (with_reducible repeat (first | refine blk_drewN ?_ _ | refine blk_drew ?_ | refine blk_alloc ?_ _)); refine blk_put (cs := #[.slice none 0 0]) ?_ 0 _ rfl; (with_reducible repeat (first | refine blk_drewN ?_ _ | refine blk_drew ?_ | refine blk_alloc ?_ _)); exact BK309.out⟩
                        have n5_ : Aside0 (Below w.heap.size w (w194.setCell ⟨gb309, 0, none⟩ (.slice Ao193 y306.length co193))) := ⟨t6_⟩
                        (try clear HO308)
                        (try clear BK297)
                        (try clear BK298)
                        (try clear BK299)
                        (try clear BK309)
                        (try clear HB)
                        generalize (w194.setCell ⟨gb309, 0, none⟩ (.slice Ao193 y306.length co193)) = w201 at n0_ n1_ n2_ n3_ n4_ n5_ ⊢
                        have HO308 := n0_
                        have BK297 := n1_
                        have BK298 := n2_
                        have BK299 := n3_
                        have BK309 := n4_
                        have HB := n5_
                        clear n0_ n1_ n2_ n3_ n4_ n5_
                        replace HO308 := Aside0.mk (Kd.R_drew HO308.out)
                        replace BK297 := Aside0.mk (blk_drew BK297.out)
                        replace BK298 := Aside0.mk (blk_drew BK298.out)
                        replace BK299 := Aside0.mk (blk_drew BK299.out)
                        replace BK309 := Aside0.mk (blk_drew BK309.out)
                        replace HB := Aside0.mk (below_drew1 HB.out)
                        have p323 : 0 ≤ (t300 : Int) := of_decide_eq_true t7_
                        have q323 : t300 < (l0_0.length : Int) := of_decide_eq_true t7_
                        obtain ⟨ad323, e323, hx323_0, hx323_1⟩ := at_T71 HR0_0.out t300 p323 q323
                        have hw323_1 := hx323_1
                        have hw323_0 := hx323_0
                        cases e323
                        replace hx323_0 := (HB.out.cell (World.block_lt_of_cell? w _ hx323_0)).trans hx323_0
                        replace hx323_1 := (HB.out.cell (World.block_lt_of_cell? w _ hx323_1)).trans hx323_1
                        replace p323 := eq_true p323
                        replace q323 := eq_true q323
                        refine start_ (n := 15) (S := fun w' => w'.cell? ⟨gb297, 0, none⟩ = some (.slice (some ad323) l0_0.length c0_0) ∧ w'.cell? ⟨gb298, 0, none⟩ = some (.int .i64 a1_0) ∧ w'.cell? ⟨gb298, 1, none⟩ = some (.string a1_1) ∧ w'.cell? ⟨gb298, 2, none⟩ = some (.string a1_2) ∧ w'.cell? ⟨gb298, 3, none⟩ = some (.string a1_3) ∧ w'.cell? (ad323.add ((t300).toNat * 2)) = some (.string ((rd_T71 l0_0 t300).f0)) ∧ w'.cell? ⟨(ad323.add ((t300).toNat * 2)).block, (ad323.add ((t300).toNat * 2)).off + 1, none⟩ = some (.string ((rd_T71 l0_0 t300).f1))) (ds := []) #[false, false, false, false, false, false, false, false, false, false, false, false, false, false, false] (by kernel_rfl) rfl rfl ⟨bc0 BK297, bc0 BK298, bc1 BK298, bc2 BK298, bc3 BK298, ((HB.out.cell (World.block_lt_of_cell? w _ hw323_0)).trans hw323_0), ((HB.out.cell (World.block_lt_of_cell? w _ hw323_1)).trans hw323_1)⟩ (fun hHeld => ?_); refine with_tabW spec_PutRaw.tab12 spec_PutRaw.bits12 (fun HT_ HW_ => ?_)
                        generalize w201.drew = w202 at HO308 BK297 BK298 BK299 BK309 HB hx323_0 hx323_1 hHeld ⊢
                        refine pure_ (i := 1) (N := some 69) (v := ?_) (a' := ?_) #[false, true, false, false, false, false, false, false, false, false, false, false, false, false, false] rfl rfl (any_of HT_.out (by kernel_rfl)) (fun _ _ _ h => h) (Or.inl ⟨by rfl, ?_⟩) ?_ ?_
                        rotate_left
                        · intro w'
                          go_simp
                          with_reducible rfl
                        rotate_left
                        · simp only [Act.put, List.setIfInBounds_toArray, List.set_cons_zero, List.set_cons_succ, i64_w, i32_w]
                          rfl
                        refine pure_ (i := 4) (N := some 72) (v := ?_) (a' := ?_) #[false, true, false, false, true, false, false, false, false, false, false, false, false, false, false] rfl rfl (any_of HT_.out (by kernel_rfl)) (fun _ _ _ h => h) (Or.inl ⟨by rfl, ?_⟩) ?_ ?_
                        rotate_left
                        · intro w'
                          go_simp
                          with_reducible rfl
                        rotate_left
                        · simp only [Act.put, List.setIfInBounds_toArray, List.set_cons_zero, List.set_cons_succ, i64_w, i32_w]
                          rfl
                        refine pure_ (i := 6) (N := some 74) (v := ?_) (a' := ?_) #[false, true, false, false, true, false, true, false, false, false, false, false, false, false, false] rfl rfl (any_of HT_.out (by kernel_rfl)) (fun _ _ _ h => h) (Or.inl ⟨by rfl, ?_⟩) ?_ ?_
                        rotate_left
                        · intro w'
                          go_simp
                          with_reducible rfl
                        rotate_left
                        · simp only [Act.put, List.setIfInBounds_toArray, List.set_cons_zero, List.set_cons_succ, i64_w, i32_w]
                          rfl
                        refine pure_ (i := 8) (N := some 76) (v := ?_) (a' := ?_) #[false, true, false, false, true, false, true, false, true, false, false, false, false, false, false] rfl rfl (any_of HT_.out (by kernel_rfl)) (fun _ _ _ h => h) (Or.inl ⟨by rfl, ?_⟩) ?_ ?_
                        rotate_left
                        · intro w'
                          go_simp
                          with_reducible rfl
                        rotate_left
                        · simp only [Act.put, List.setIfInBounds_toArray, List.set_cons_zero, List.set_cons_succ, i64_w, i32_w]
                          rfl
                        refine take_ (i := 0) (N := some 68) (v := ?_) (a' := ?_) #[true, true, false, false, true, false, true, false, true, false, false, false, false, false, false] rfl rfl (take_ofW HT_.out HW_.out (by kernel_rfl)) (fun _ _ _ h => h) (Or.inl ⟨by rfl, ?_⟩) hHeld ?_ ?_
                        rotate_left
                        · rintro w' ⟨s0, s1, s2, s3, s4, s5, s6⟩
                          go_simp
                          with_reducible rfl
                        rotate_left
                        · simp only [Act.put, List.setIfInBounds_toArray, List.set_cons_zero, List.set_cons_succ, i64_w, i32_w]
                          rfl
                        refine take_ (i := 2) (N := some 70) (v := ?_) (a' := ?_) #[true, true, true, false, true, false, true, false, true, false, false, false, false, false, false] rfl rfl (take_ofW HT_.out HW_.out (by kernel_rfl)) (fun _ _ _ h => h) (Or.inl ⟨by rfl, ?_⟩) hHeld ?_ ?_
                        rotate_left
                        · rintro w' ⟨s0, s1, s2, s3, s4, s5, s6⟩
                          go_simp
                          with_reducible rfl
                        rotate_left
                        · simp only [Act.put, List.setIfInBounds_toArray, List.set_cons_zero, List.set_cons_succ, i64_w, i32_w]
                          rfl
                        refine take_ (i := 5) (N := some 73) (v := ?_) (a' := ?_) #[true, true, true, false, true, true, true, false, true, false, false, false, false, false, false] rfl rfl (take_ofW HT_.out HW_.out (by kernel_rfl)) (fun _ _ _ h => h) (Or.inl ⟨by rfl, ?_⟩) hHeld ?_ ?_
                        rotate_left
                        · rintro w' ⟨s0, s1, s2, s3, s4, s5, s6⟩
                          go_simp
                          with_reducible rfl
                        rotate_left
                        · simp only [Act.put, List.setIfInBounds_toArray, List.set_cons_zero, List.set_cons_succ, i64_w, i32_w]
                          rfl
                        refine take_ (i := 7) (N := some 75) (v := ?_) (a' := ?_) #[true, true, true, false, true, true, true, true, true, false, false, false, false, false, false] rfl rfl (take_ofW HT_.out HW_.out (by kernel_rfl)) (fun _ _ _ h => h) (Or.inl ⟨by rfl, ?_⟩) hHeld ?_ ?_
                        rotate_left
                        · rintro w' ⟨s0, s1, s2, s3, s4, s5, s6⟩
                          go_simp
                          with_reducible rfl
                        rotate_left
                        · simp only [Act.put, List.setIfInBounds_toArray, List.set_cons_zero, List.set_cons_succ, i64_w, i32_w]
                          rfl
                        refine pure_ (i := 9) (N := some 77) (v := ?_) (a' := ?_) #[true, true, true, false, true, true, true, true, true, true, false, false, false, false, false] rfl rfl (any_of HT_.out (by kernel_rfl)) (fun _ _ _ h => h) (Or.inl ⟨by rfl, ?_⟩) ?_ ?_
                        rotate_left
                        · intro w'
                          go_simp
                          with_reducible rfl
                        rotate_left
                        · simp only [Act.put, List.setIfInBounds_toArray, List.set_cons_zero, List.set_cons_succ, i64_w, i32_w]
                          rfl
                        refine pure_ (i := 10) (N := some 78) (v := ?_) (a' := ?_) #[true, true, true, false, true, true, true, true, true, true, true, false, false, false, false] rfl rfl (any_of HT_.out (by kernel_rfl)) (fun _ _ _ h => h) (Or.inl ⟨by rfl, ?_⟩) ?_ ?_
                        rotate_left
                        · intro w'
                          go_simp
                          with_reducible rfl
                        rotate_left
                        · simp only [Act.put, List.setIfInBounds_toArray, List.set_cons_zero, List.set_cons_succ, i64_w, i32_w]
                          rfl
                        refine take_ (i := 11) (N := some 79) (v := ?_) (a' := ?_) #[true, true, true, false, true, true, true, true, true, true, true, true, false, false, false] rfl rfl (take_ofW HT_.out HW_.out (by kernel_rfl)) (fun _ _ _ h => h) (Or.inl ⟨by rfl, ?_⟩) hHeld ?_ ?_
                        rotate_left
                        · rintro w' ⟨s0, s1, s2, s3, s4, s5, s6⟩
                          go_simp
                          with_reducible rfl
                        rotate_left
                        · simp only [Act.put, List.setIfInBounds_toArray, List.set_cons_zero, List.set_cons_succ, i64_w, i32_w]
                          rfl
                        refine pure_ (i := 12) (N := some 80) (v := ?_) (a' := ?_) #[true, true, true, false, true, true, true, true, true, true, true, true, true, false, false] rfl rfl (any_of HT_.out (by kernel_rfl)) (fun _ _ _ h => h) (Or.inl ⟨by rfl, ?_⟩) ?_ ?_
                        rotate_left
                        · intro w'
                          go_simp
                          with_reducible rfl
                        rotate_left
                        · simp only [Act.put, List.setIfInBounds_toArray, List.set_cons_zero, List.set_cons_succ, i64_w, i32_w]
                          rfl
                        refine one_ (i := 3) (N := some 71) #[true, true, true, true, true, true, true, true, true, true, true, true, true, false, false] rfl rfl (one_of HT_.out (by kernel_rfl)) (by decide) (fun K hK => ?_)
                        refine goes_ Try.func88 (by kernel_rfl) rfl #[.agg #[.slice (some ad323) l0_0.length c0_0], .string a1_1] (by rfl) rfl rfl t1_ ?_
                        with_reducible refine (spec_l03Drop.calls kj3 _ _ l0_0 a1_1 t320 _ ?side1 ?side2 A181.out).mono ?_
                        (case side1 => exact cB HR0_0 HB)
                        (case side2 => exact HC0_0.out)
                        rintro e w203 ⟨v321, rfl, ho0, hb⟩
                        refine ⟨_, rfl, ?_⟩
                        have HO322 := Aside0.mk (Kd.R_lower (Kd.R_new' ho0 (Kd.R_lt t20_)) (below_size t6_))
                        replace HO308 := Aside0.mk (Kd.R_elder' t20_ (Kd.R_base ho0) hb)
                        replace BK297 := bkN BK297 hb
                        replace BK298 := bkN BK298 hb
                        replace BK299 := bkN BK299 hb
                        replace BK309 := bkN BK309 hb
                        replace HB := Aside0.mk (below_step t6_ hb)
                        (try clear hb)
                        (try clear hb2)
                        (try clear hk)
                        (try clear hi)
                        (try clear ho0)
                        obtain ⟨Ao204, co204, eo204⟩ := Kd.R_slice HO322.out
                        (first | subst eo204 | (injection eo204 with f1_ f2_ f3_; have f4_ := f1_.symm; have f5_ := f3_.symm; clear f1_ f2_ f3_; subst f4_; subst f5_))
                        refine hK.out _ _ ⟨bc0 BK297, bc0 BK298, bc1 BK298, bc2 BK298, bc3 BK298, ((HB.out.cell (World.block_lt_of_cell? w _ hw323_0)).trans hw323_0), ((HB.out.cell (World.block_lt_of_cell? w _ hw323_1)).trans hw323_1)⟩ (fun hHeld => ?_)
                        clear hK K
                        refine norm_ (a' := ?_) ?_ ?_
                        rotate_left
                        · show Act.put _ (some 71) _ = _
                          simp only [Act.put, List.setIfInBounds_toArray, List.set_cons_zero, List.set_cons_succ, i64_w, i32_w]
                          rfl
                        refine one_ (i := 13) (N := some 81) #[true, true, true, true, true, true, true, true, true, true, true, true, true, true, false] rfl rfl (one_of HT_.out (by kernel_rfl)) (by decide) (fun K hK => ?_)
                        refine goes_ Try.func79 (by kernel_rfl) rfl #[.agg #[.slice Ao204 t320.length co204], .agg #[.string a1_2, .string ((rd_T71 l0_0 t300).f1)]] (by rfl) rfl rfl t1_ ?_
                        with_reducible refine (spec_l03Put.calls kj3 _ _ t320 a1_2 ((rd_T71 l0_0 t300).f1) t324 _ ?side1 ?side2 A184.out).mono ?_
                        (case side1 => repeat (first | exact (Kd.R_reads' HO322.out).2.2 | (with_reducible refine Kd.C_alloc ?_ _) | (with_reducible refine Kd.C_drewN ?_ _) | (with_reducible refine Kd.C_drew ?_)))
                        (case side2 => exact (Kd.R_reads' HO322.out).2.1)
                        rintro e w205 ⟨v325, rfl, ho0, hb⟩
                        refine ⟨_, rfl, ?_⟩
                        have HO326 := Aside0.mk (Kd.R_lower (Kd.R_new' (Kd.R_new' ho0 (Kd.R_lt t20_)) (Kd.R_lt t75_)) (below_size t6_))
                        replace HO308 := Aside0.mk (Kd.R_elder' t20_ (Kd.R_base ho0) hb)
                        replace HO322 := Aside0.mk (Kd.R_elder' t75_ (Kd.R_base ho0) hb)
                        replace BK297 := bkN BK297 hb
                        replace BK298 := bkN BK298 hb
                        replace BK299 := bkN BK299 hb
                        replace BK309 := bkN BK309 hb
                        replace HB := Aside0.mk (below_step t6_ hb)
                        (try clear hb)
                        (try clear hb2)
                        (try clear hk)
                        (try clear hi)
                        (try clear ho0)
                        obtain ⟨Ao206, co206, eo206⟩ := Kd.R_slice HO326.out
                        (first | subst eo206 | (injection eo206 with f1_ f2_ f3_; have f4_ := f1_.symm; have f5_ := f3_.symm; clear f1_ f2_ f3_; subst f4_; subst f5_))
                        refine hK.out _ _ ⟨bc0 BK297, bc0 BK298, bc1 BK298, bc2 BK298, bc3 BK298, ((HB.out.cell (World.block_lt_of_cell? w _ hw323_0)).trans hw323_0), ((HB.out.cell (World.block_lt_of_cell? w _ hw323_1)).trans hw323_1)⟩ (fun hHeld => ?_)
                        clear hK K
                        refine norm_ (a' := ?_) ?_ ?_
                        rotate_left
                        · show Act.put _ (some 81) _ = _
                          simp only [Act.put, List.setIfInBounds_toArray, List.set_cons_zero, List.set_cons_succ, i64_w, i32_w]
                          rfl
                        refine one_ (i := 14) (N := none) #[true, true, true, true, true, true, true, true, true, true, true, true, true, true, true] rfl rfl (one_of HT_.out (by kernel_rfl)) (by decide) (fun K hK => ?_)
                        have hs207 : w205.cell? ⟨gb309, 0, none⟩ = some (.slice Ao193 y306.length co193) := bc0 BK309
                        have hfs207 := bf BK309 0
                        have hns207_0 := NB297_309.out
                        have hns207_1 := NB298_309.out
                        have hns207_2 := NB299_309.out
                        have hms207_0 := NB309_297.out
                        have hms207_1 := NB309_298.out
                        have hms207_2 := NB309_299.out
                        refine skip_ (w1 := ?_) (by rfl) rfl ?_ ?_
                        rotate_left
                        · go_simp
                          rfl
                        refine hK.out _ _ ⟨((cell_far (p := ⟨gb309, _, none⟩) NB297_309.out _).trans (hHeld.1)), ((cell_far (p := ⟨gb309, _, none⟩) NB298_309.out _).trans (hHeld.2.1)), ((cell_far (p := ⟨gb309, _, none⟩) NB298_309.out _).trans (hHeld.2.2.1)), ((cell_far (p := ⟨gb309, _, none⟩) NB298_309.out _).trans (hHeld.2.2.2.1)), ((cell_far (p := ⟨gb309, _, none⟩) NB298_309.out _).trans (hHeld.2.2.2.2.1)), ((cell_far (p := ⟨gb309, _, none⟩) (by first | exact Nat.ne_of_lt (Nat.lt_of_lt_of_le (by have := World.block_lt_of_cell? _ _ hw323_0; first | rwa [add_block] at this | exact this) GW309.out) | (rw [add_block]; exact Nat.ne_of_lt (Nat.lt_of_lt_of_le (by have := World.block_lt_of_cell? _ _ hw323_0; first | rwa [add_block] at this | exact this) GW309.out)) | (show (Addr.add _ _).block ≠ _; rw [add_block]; exact Nat.ne_of_lt (Nat.lt_of_lt_of_le (by have := World.block_lt_of_cell? _ _ hw323_0; first | rwa [add_block] at this | exact this) GW309.out)) | (dsimp only; exact Nat.ne_of_lt (Nat.lt_of_lt_of_le (by have := World.block_lt_of_cell? _ _ hw323_0; first | rwa [add_block] at this | exact this) GW309.out))) _).trans (hHeld.2.2.2.2.2.1)), ((cell_far (p := ⟨gb309, _, none⟩) (by first | exact Nat.ne_of_lt (Nat.lt_of_lt_of_le (by have := World.block_lt_of_cell? _ _ hw323_1; first | rwa [add_block] at this | exact this) GW309.out) | (rw [add_block]; exact Nat.ne_of_lt (Nat.lt_of_lt_of_le (by have := World.block_lt_of_cell? _ _ hw323_1; first | rwa [add_block] at this | exact this) GW309.out)) | (show (Addr.add _ _).block ≠ _; rw [add_block]; exact Nat.ne_of_lt (Nat.lt_of_lt_of_le (by have := World.block_lt_of_cell? _ _ hw323_1; first | rwa [add_block] at this | exact this) GW309.out)) | (dsimp only; exact Nat.ne_of_lt (Nat.lt_of_lt_of_le (by have := World.block_lt_of_cell? _ _ hw323_1; first | rwa [add_block] at this | exact this) GW309.out))) _).trans (hHeld.2.2.2.2.2.2))⟩ (fun hHeld => ?_)
                        clear hK K
                        refine done_ (done_of HT_.out (by kernel_rfl)) ?_
                        have hcz208_0 := bc0 BK309
                        have hfz208_0 := bf BK309 0
                        try go_wp2_with (first | ((with_reducible refine gate_callee (f := 56) rfl ?_); refine goesL_ (some 89) rfl rfl Try.func56 (by kernel_rfl) rfl #[.agg #[.slice Ao206 t324.length co206]] rfl t1_ ?_; (with_reducible refine (spec_DiskOk.calls kj3 _ _ t324 true _ ?side1 ?side2 A185.out).mono ?_); (case side1 => refine (Kd.R_reads' (e := 71) (base := w.heap.size) (ok := fun k_ => ((True ∧ some k_ ≠ (.slice Ao193 y306.length co193 : Value).ownBlock) ∧ some k_ ≠ (.slice Ao204 t320.length co204 : Value).ownBlock)) (n := t324.length) (c := co206) ?_).2.2; exact (by (with_reducible repeat (first | apply Kd.R_alloc | apply Kd.R_drewN | apply Kd.R_drew)); exact (Kd.R_mono (Kd.R_far (p := ⟨gb309, 0, none⟩) (Kd.R_types HO326.out BK309.out (by decide)) (fun _ hk => hk.2) (.slice Ao206 t324.length co206)) (fun _ h_ => h_.1)))); (case side2 => exact (Kd.R_reads' HO326.out).2.1); rintro e w209 ⟨rfl, hb⟩; refine ⟨_, rfl, ?_⟩; replace HO308 := Aside0.mk (Kd.R_below (by (with_reducible repeat (first | apply Kd.R_alloc | apply Kd.R_drewN | apply Kd.R_drew)); exact (Kd.R_mono (Kd.R_far (p := ⟨gb309, 0, none⟩) (Kd.R_types HO308.out BK309.out (by decide)) (fun _ hk => hk.2) (.slice Ao206 t324.length co206)) (fun _ h_ => h_.1))) hb); replace HO322 := Aside0.mk (Kd.R_below (by (with_reducible repeat (first | apply Kd.R_alloc | apply Kd.R_drewN | apply Kd.R_drew)); exact (Kd.R_mono (Kd.R_far (p := ⟨gb309, 0, none⟩) (Kd.R_types HO322.out BK309.out (by decide)) (fun _ hk => hk.2) (.slice Ao206 t324.length co206)) (fun _ h_ => h_.1))) hb); replace HO326 := Aside0.mk (Kd.R_below (by (with_reducible repeat (first | apply Kd.R_alloc | apply Kd.R_drewN | apply Kd.R_drew)); exact (Kd.R_mono (Kd.R_far (p := ⟨gb309, 0, none⟩) (Kd.R_types HO326.out BK309.out (by decide)) (fun _ hk => hk.2) (.slice Ao206 t324.length co206)) (fun _ h_ => h_.1))) hb); replace BK297 := bkF BK297 NB297_309 hb; replace BK298 := bkF BK298 NB298_309 hb; replace BK299 := bkF BK299 NB299_309 hb; replace BK309 := Aside0.mk (blk_below (g := gb309) (o := .cells #[.slice Ao206 t324.length co206] 30 (0, 0)) (by (with_reducible repeat (first | refine blk_drewN ?_ _ | refine blk_drew ?_ | refine blk_alloc ?_ _)); refine blk_put (cs := #[.slice Ao193 y306.length co193]) ?_ 0 _ rfl; (with_reducible repeat (first | refine blk_drewN ?_ _ | refine blk_drew ?_ | refine blk_alloc ?_ _)); exact BK309.out) hb); replace HB := Aside0.mk (below_step t6_ hb); (try clear hb); (try clear hb2); (try clear hk); (try clear hi); have hcz210_0 := bc0 BK309; have hfz210_0 := bf BK309 0; have hcz211_0 := bc0 BK299; have hfz211_0 := bf BK299 0))
                        refine bodyPost_ret (results_ct rfl _ _ gb299 30 #[.slice Ao206 t324.length co206] (0, 0) _ rfl (by (with_reducible repeat (first | refine blk_drewN ?_ _ | refine blk_drew ?_ | refine blk_alloc ?_ _)); refine blk_put (cs := #[.slice none 0 0]) ?_ 0 _ rfl; (with_reducible repeat (first | refine blk_drewN ?_ _ | refine blk_drew ?_ | refine blk_alloc ?_ _)); exact BK299.out) Try.underlying30 rfl (by kernel_rfl)) rfl ?_
                        exact ⟨_, by first | rfl | (simp [errW_none, errW_some] <;> rfl) | (simp [*, errW_none, errW_some] <;> rfl), by (with_reducible repeat (first | apply Kd.R_alloc | apply Kd.R_drewN | apply Kd.R_drew)); exact Kd.R_mono (Kd.R_far (p := ⟨gb299, 0, none⟩) (Kd.R_types HO326.out BK299.out (by decide)) (fun _ hk => hk.2) (.slice Ao206 t324.length co206)) (fun _ hk => trivial), t6_⟩
                      · replace c186 := Bool.eq_false_iff.mpr c186
                        subst c186
                        have H1 : (some (([] : List (S71)), false)) = some (r1, r2) := by rw [if_neg (show ¬ (false = true) by decide)] at H; exact H
                        clear H
                        have H := H1
                        clear H1
                        simp only [Option.some.injEq, Prod.mk.injEq] at H
                        obtain ⟨rfl, rfl⟩ := H
                        try go_wp2_with (first | ((with_reducible refine gate_dst (N := 31) rfl ?_); refine Kd.R_lit k71 _ 71 ?hg (N := 31) ?hd (xs := ([] : List (S71))) (inner := []) (ok := fun _ => True) (okp := fun _ => True) ?hr ?hp (fun _ hk => hk) trivial (Below.refl _ _) (Nat.le_refl _) (by simp) ?_; (case hd => rfl); (case hg => rfl); (case hr => first | (go_simp; done) | (go_simp; rfl)); (case hp => exact (Reps.none _ _)); intro v304 w212 ho213 hb hg_ hnew_; clear hg_ hnew_; (first | rw [← Ny303.out] at ho213 | (simp only [Int.reduceToNat] at ho213; rw [← Ny303.out] at ho213)); have HO305 := Aside0.mk (Kd.R_lower ho213 (below_size t2_)); replace BK297 := bkN BK297 hb; replace BK298 := bkN BK298 hb; replace BK299 := bkN BK299 hb; replace HB := Aside0.mk (below_step t2_ hb); clear hb ho213; have hnb214 := NB297_298.out; have hnc214 := NB298_297.out; have hnb215 := NB297_299.out; have hnc215 := NB299_297.out; have hcz216_0 := bc0 BK297; have hfz216_0 := bf BK297 0) | ((with_reducible refine gate_builtin (b := .append) (xs := #[.tmp 31, .tmp 33]) rfl ?_); at_builtin; refine Kd.R_append_rows k71 (w0 := w) w.heap.size rfl (.tmp 31) (.tmp 33) 28 71 (.agg #[(.string ⟨#[]⟩), (.string ⟨#[]⟩)]) 32 rfl Try.underlying28 info71 rfl (by decide) (by omega) v304 y303 l0_0 _ _ _ (fun _ => True) (fun _ => False) rfl rfl ?aO ?aR (fun _ _ h => h) (fun _ h => h.elim) ?aF ?aB ?aS ?aL ?_; (case aR => exact cB HR0_0 HB); (case aB => exact t2_); (case aF => exact (fun _ _ => trivial)); (case aO => exact t46_); (case aS => exact (below_size t2_)); (case aL => have := LMc45.out; omega); intro v307 w217 ho hb hg hat; rw [← Ny306.out] at ho; have n0_ := Aside0.mk (blk_grown (g := gb297) (o := .cells #[.slice A0_0 l0_0.length c0_0] 30 (0, 0)) t37_ hg (Kd.R_ne HO305.out BK297.out (by decide))); have n1_ := Aside0.mk (blk_grown (g := gb298) (o := .cells #[.int .i64 a1_0, .string a1_1, .string a1_2, .string a1_3] 65 (0, 0)) t38_ hg (Kd.R_ne HO305.out BK298.out (by decide))); have n2_ := Aside0.mk (blk_grown (g := gb299) (o := .cells #[.slice none 0 0] 30 (0, 0)) t39_ hg (Kd.R_ne HO305.out BK299.out (by decide))); have n3_ := Aside0.mk (hb); have n4_ := Aside0.mk (ho); clear BK297; clear BK298; clear BK299; clear HB; clear HO305; have BK297 := n0_; have BK298 := n1_; have BK299 := n2_; have HB := n3_; have HO308 := n4_; clear n0_ n1_ n2_ n3_ n4_; clear ho hb hg hat; obtain ⟨Ao218, co218, eo218⟩ := Kd.R_slice HO308.out; subst eo218) | ((with_reducible refine gate_dst (N := 7) rfl ?_); refine boxE (N := 7) (cs := #[.slice none 0 0]) (t := 30) (h := ?_); intro gb309 hg w219 hbox hb; replace HO308 := Aside0.mk (Kd.R_below t20_ hb); have BK309 := Aside0.mk (hbox); have GW309 := Aside0.mk ((t14_ : w.heap.size ≤ gb309)); have GE309 := Aside0.mk ((t14_ : w.heap.size ≤ gb309)); replace HB := Aside0.mk (below_step t2_ hb); have NB297_309 := nbL BK297 hg; have NB309_297 := nbG BK297 hg; replace BK297 := bkN BK297 hb; have NB298_309 := nbL BK298 hg; have NB309_298 := nbG BK298 hg; replace BK298 := bkN BK298 hb; have NB299_309 := nbL BK299 hg; have NB309_299 := nbG BK299 hg; replace BK299 := bkN BK299 hb; clear hb hbox hg; have hnb220 := NB309_297.out; have hnc220 := NB297_309.out; have hnb221 := NB309_298.out; have hnc221 := NB298_309.out; have hnb222 := NB309_299.out; have hnc222 := NB299_309.out; have hcz223_0 := bc0 BK309; have hfz223_0 := bf BK309 0; have hnb224 := NB298_299.out; have hnc224 := NB299_298.out; have hcz225_0 := bc0 BK298; have hcz225_1 := bc1 BK298; have hcz225_2 := bc2 BK298; have hcz225_3 := bc3 BK298; have hfz225_0 := bf BK298 0; have hfz225_1 := bf BK298 1; have hfz225_2 := bf BK298 2; have hfz225_3 := bf BK298 3))
                        have n0_ : Aside0 (Kd.R k71 71 (w219.setCell ⟨gb309, 0, none⟩ (.slice Ao218 y306.length co218)) w.heap.size (fun _ => True) (.slice Ao218 y306.length co218) y306) := ⟨by (with_reducible repeat (first | apply Kd.R_alloc | apply Kd.R_drewN | apply Kd.R_drew)); exact Kd.R_mono (Kd.R_far (p := ⟨gb309, 0, none⟩) (Kd.R_types HO308.out BK309.out (by decide)) (fun _ hk => hk.2) (.slice Ao218 y306.length co218)) (fun _ hk => trivial)⟩
                        have n1_ : Aside0 ((w219.setCell ⟨gb309, 0, none⟩ (.slice Ao218 y306.length co218)).heap[gb297]? = some (.cells #[.slice A0_0 l0_0.length c0_0] 30 (0, 0))) := ⟨by (with_reducible repeat (first | refine blk_drewN ?_ _ | refine blk_drew ?_ | refine blk_alloc ?_ _)); refine blk_far ?_ NB297_309.out _; (with_reducible repeat (first | refine blk_drewN ?_ _ | refine blk_drew ?_ | refine blk_alloc ?_ _)); exact BK297.out⟩
                        have n2_ : Aside0 ((w219.setCell ⟨gb309, 0, none⟩ (.slice Ao218 y306.length co218)).heap[gb298]? = some (.cells #[.int .i64 a1_0, .string a1_1, .string a1_2, .string a1_3] 65 (0, 0))) := ⟨by (with_reducible repeat (first | refine blk_drewN ?_ _ | refine blk_drew ?_ | refine blk_alloc ?_ _)); refine blk_far ?_ NB298_309.out _; (with_reducible repeat (first | refine blk_drewN ?_ _ | refine blk_drew ?_ | refine blk_alloc ?_ _)); exact BK298.out⟩
                        have n3_ : Aside0 ((w219.setCell ⟨gb309, 0, none⟩ (.slice Ao218 y306.length co218)).heap[gb299]? = some (.cells #[.slice none 0 0] 30 (0, 0))) := ⟨by (with_reducible repeat (first | refine blk_drewN ?_ _ | refine blk_drew ?_ | refine blk_alloc ?_ _)); refine blk_far ?_ NB299_309.out _; (with_reducible repeat (first | refine blk_drewN ?_ _ | refine blk_drew ?_ | refine blk_alloc ?_ _)); exact BK299.out⟩
                        have n4_ : Aside0 ((w219.setCell ⟨gb309, 0, none⟩ (.slice Ao218 y306.length co218)).heap[gb309]? = some (.cells #[.slice Ao218 y306.length co218] 30 (0, 0))) := ⟨by (with_reducible repeat (first | refine blk_drewN ?_ _ | refine blk_drew ?_ | refine blk_alloc ?_ _)); refine blk_put (cs := #[.slice none 0 0]) ?_ 0 _ rfl; (with_reducible repeat (first | refine blk_drewN ?_ _ | refine blk_drew ?_ | refine blk_alloc ?_ _)); exact BK309.out⟩
                        have n5_ : Aside0 (Below w.heap.size w (w219.setCell ⟨gb309, 0, none⟩ (.slice Ao218 y306.length co218))) := ⟨t6_⟩
                        (try clear HO308)
                        (try clear BK297)
                        (try clear BK298)
                        (try clear BK299)
                        (try clear BK309)
                        (try clear HB)
                        generalize (w219.setCell ⟨gb309, 0, none⟩ (.slice Ao218 y306.length co218)) = w226 at n0_ n1_ n2_ n3_ n4_ n5_ ⊢
                        have HO308 := n0_
                        have BK297 := n1_
                        have BK298 := n2_
                        have BK299 := n3_
                        have BK309 := n4_
                        have HB := n5_
                        clear n0_ n1_ n2_ n3_ n4_ n5_
                        replace HO308 := Aside0.mk (Kd.R_drew HO308.out)
                        replace BK297 := Aside0.mk (blk_drew BK297.out)
                        replace BK298 := Aside0.mk (blk_drew BK298.out)
                        replace BK299 := Aside0.mk (blk_drew BK299.out)
                        replace BK309 := Aside0.mk (blk_drew BK309.out)
                        replace HB := Aside0.mk (below_drew1 HB.out)
                        have p323 : 0 ≤ (t300 : Int) := of_decide_eq_true t7_
                        have q323 : t300 < (l0_0.length : Int) := of_decide_eq_true t7_
                        obtain ⟨ad323, e323, hx323_0, hx323_1⟩ := at_T71 HR0_0.out t300 p323 q323
                        have hw323_1 := hx323_1
                        have hw323_0 := hx323_0
                        cases e323
                        replace hx323_0 := (HB.out.cell (World.block_lt_of_cell? w _ hx323_0)).trans hx323_0
                        replace hx323_1 := (HB.out.cell (World.block_lt_of_cell? w _ hx323_1)).trans hx323_1
                        replace p323 := eq_true p323
                        replace q323 := eq_true q323
                        refine start_ (n := 15) (S := fun w' => w'.cell? ⟨gb297, 0, none⟩ = some (.slice (some ad323) l0_0.length c0_0) ∧ w'.cell? ⟨gb298, 0, none⟩ = some (.int .i64 a1_0) ∧ w'.cell? ⟨gb298, 1, none⟩ = some (.string a1_1) ∧ w'.cell? ⟨gb298, 2, none⟩ = some (.string a1_2) ∧ w'.cell? ⟨gb298, 3, none⟩ = some (.string a1_3) ∧ w'.cell? (ad323.add ((t300).toNat * 2)) = some (.string ((rd_T71 l0_0 t300).f0)) ∧ w'.cell? ⟨(ad323.add ((t300).toNat * 2)).block, (ad323.add ((t300).toNat * 2)).off + 1, none⟩ = some (.string ((rd_T71 l0_0 t300).f1))) (ds := []) #[false, false, false, false, false, false, false, false, false, false, false, false, false, false, false] (by kernel_rfl) rfl rfl ⟨bc0 BK297, bc0 BK298, bc1 BK298, bc2 BK298, bc3 BK298, ((HB.out.cell (World.block_lt_of_cell? w _ hw323_0)).trans hw323_0), ((HB.out.cell (World.block_lt_of_cell? w _ hw323_1)).trans hw323_1)⟩ (fun hHeld => ?_); refine with_tabW spec_PutRaw.tab12 spec_PutRaw.bits12 (fun HT_ HW_ => ?_)
                        generalize w226.drew = w227 at HO308 BK297 BK298 BK299 BK309 HB hx323_0 hx323_1 hHeld ⊢
                        refine pure_ (i := 1) (N := some 69) (v := ?_) (a' := ?_) #[false, true, false, false, false, false, false, false, false, false, false, false, false, false, false] rfl rfl (any_of HT_.out (by kernel_rfl)) (fun _ _ _ h => h) (Or.inl ⟨by rfl, ?_⟩) ?_ ?_
                        rotate_left
                        · intro w'
                          go_simp
                          with_reducible rfl
                        rotate_left
                        · simp only [Act.put, List.setIfInBounds_toArray, List.set_cons_zero, List.set_cons_succ, i64_w, i32_w]
                          rfl
                        refine pure_ (i := 4) (N := some 72) (v := ?_) (a' := ?_) #[false, true, false, false, true, false, false, false, false, false, false, false, false, false, false] rfl rfl (any_of HT_.out (by kernel_rfl)) (fun _ _ _ h => h) (Or.inl ⟨by rfl, ?_⟩) ?_ ?_
                        rotate_left
                        · intro w'
                          go_simp
                          with_reducible rfl
                        rotate_left
                        · simp only [Act.put, List.setIfInBounds_toArray, List.set_cons_zero, List.set_cons_succ, i64_w, i32_w]
                          rfl
                        refine pure_ (i := 6) (N := some 74) (v := ?_) (a' := ?_) #[false, true, false, false, true, false, true, false, false, false, false, false, false, false, false] rfl rfl (any_of HT_.out (by kernel_rfl)) (fun _ _ _ h => h) (Or.inl ⟨by rfl, ?_⟩) ?_ ?_
                        rotate_left
                        · intro w'
                          go_simp
                          with_reducible rfl
                        rotate_left
                        · simp only [Act.put, List.setIfInBounds_toArray, List.set_cons_zero, List.set_cons_succ, i64_w, i32_w]
                          rfl
                        refine pure_ (i := 8) (N := some 76) (v := ?_) (a' := ?_) #[false, true, false, false, true, false, true, false, true, false, false, false, false, false, false] rfl rfl (any_of HT_.out (by kernel_rfl)) (fun _ _ _ h => h) (Or.inl ⟨by rfl, ?_⟩) ?_ ?_
                        rotate_left
                        · intro w'
                          go_simp
                          with_reducible rfl
                        rotate_left
                        · simp only [Act.put, List.setIfInBounds_toArray, List.set_cons_zero, List.set_cons_succ, i64_w, i32_w]
                          rfl
                        refine take_ (i := 0) (N := some 68) (v := ?_) (a' := ?_) #[true, true, false, false, true, false, true, false, true, false, false, false, false, false, false] rfl rfl (take_ofW HT_.out HW_.out (by kernel_rfl)) (fun _ _ _ h => h) (Or.inl ⟨by rfl, ?_⟩) hHeld ?_ ?_
                        rotate_left
                        · rintro w' ⟨s0, s1, s2, s3, s4, s5, s6⟩
                          go_simp
                          with_reducible rfl
                        rotate_left
                        · simp only [Act.put, List.setIfInBounds_toArray, List.set_cons_zero, List.set_cons_succ, i64_w, i32_w]
                          rfl
                        refine take_ (i := 2) (N := some 70) (v := ?_) (a' := ?_) #[true, true, true, false, true, false, true, false, true, false, false, false, false, false, false] rfl rfl (take_ofW HT_.out HW_.out (by kernel_rfl)) (fun _ _ _ h => h) (Or.inl ⟨by rfl, ?_⟩) hHeld ?_ ?_
                        rotate_left
                        · rintro w' ⟨s0, s1, s2, s3, s4, s5, s6⟩
                          go_simp
                          with_reducible rfl
                        rotate_left
                        · simp only [Act.put, List.setIfInBounds_toArray, List.set_cons_zero, List.set_cons_succ, i64_w, i32_w]
                          rfl
                        refine take_ (i := 5) (N := some 73) (v := ?_) (a' := ?_) #[true, true, true, false, true, true, true, false, true, false, false, false, false, false, false] rfl rfl (take_ofW HT_.out HW_.out (by kernel_rfl)) (fun _ _ _ h => h) (Or.inl ⟨by rfl, ?_⟩) hHeld ?_ ?_
                        rotate_left
                        · rintro w' ⟨s0, s1, s2, s3, s4, s5, s6⟩
                          go_simp
                          with_reducible rfl
                        rotate_left
                        · simp only [Act.put, List.setIfInBounds_toArray, List.set_cons_zero, List.set_cons_succ, i64_w, i32_w]
                          rfl
                        refine take_ (i := 7) (N := some 75) (v := ?_) (a' := ?_) #[true, true, true, false, true, true, true, true, true, false, false, false, false, false, false] rfl rfl (take_ofW HT_.out HW_.out (by kernel_rfl)) (fun _ _ _ h => h) (Or.inl ⟨by rfl, ?_⟩) hHeld ?_ ?_
                        rotate_left
                        · rintro w' ⟨s0, s1, s2, s3, s4, s5, s6⟩
                          go_simp
                          with_reducible rfl
                        rotate_left
                        · simp only [Act.put, List.setIfInBounds_toArray, List.set_cons_zero, List.set_cons_succ, i64_w, i32_w]
                          rfl
                        refine pure_ (i := 9) (N := some 77) (v := ?_) (a' := ?_) #[true, true, true, false, true, true, true, true, true, true, false, false, false, false, false] rfl rfl (any_of HT_.out (by kernel_rfl)) (fun _ _ _ h => h) (Or.inl ⟨by rfl, ?_⟩) ?_ ?_
                        rotate_left
                        · intro w'
                          go_simp
                          with_reducible rfl
                        rotate_left
                        · simp only [Act.put, List.setIfInBounds_toArray, List.set_cons_zero, List.set_cons_succ, i64_w, i32_w]
                          rfl
                        refine pure_ (i := 10) (N := some 78) (v := ?_) (a' := ?_) #[true, true, true, false, true, true, true, true, true, true, true, false, false, false, false] rfl rfl (any_of HT_.out (by kernel_rfl)) (fun _ _ _ h => h) (Or.inl ⟨by rfl, ?_⟩) ?_ ?_
                        rotate_left
                        · intro w'
                          go_simp
                          with_reducible rfl
                        rotate_left
                        · simp only [Act.put, List.setIfInBounds_toArray, List.set_cons_zero, List.set_cons_succ, i64_w, i32_w]
                          rfl
                        refine take_ (i := 11) (N := some 79) (v := ?_) (a' := ?_) #[true, true, true, false, true, true, true, true, true, true, true, true, false, false, false] rfl rfl (take_ofW HT_.out HW_.out (by kernel_rfl)) (fun _ _ _ h => h) (Or.inl ⟨by rfl, ?_⟩) hHeld ?_ ?_
                        rotate_left
                        · rintro w' ⟨s0, s1, s2, s3, s4, s5, s6⟩
                          go_simp
                          with_reducible rfl
                        rotate_left
                        · simp only [Act.put, List.setIfInBounds_toArray, List.set_cons_zero, List.set_cons_succ, i64_w, i32_w]
                          rfl
                        refine pure_ (i := 12) (N := some 80) (v := ?_) (a' := ?_) #[true, true, true, false, true, true, true, true, true, true, true, true, true, false, false] rfl rfl (any_of HT_.out (by kernel_rfl)) (fun _ _ _ h => h) (Or.inl ⟨by rfl, ?_⟩) ?_ ?_
                        rotate_left
                        · intro w'
                          go_simp
                          with_reducible rfl
                        rotate_left
                        · simp only [Act.put, List.setIfInBounds_toArray, List.set_cons_zero, List.set_cons_succ, i64_w, i32_w]
                          rfl
                        refine one_ (i := 3) (N := some 71) #[true, true, true, true, true, true, true, true, true, true, true, true, true, false, false] rfl rfl (one_of HT_.out (by kernel_rfl)) (by decide) (fun K hK => ?_)
                        refine goes_ Try.func88 (by kernel_rfl) rfl #[.agg #[.slice (some ad323) l0_0.length c0_0], .string a1_1] (by rfl) rfl rfl t1_ ?_
                        with_reducible refine (spec_l03Drop.calls kj3 _ _ l0_0 a1_1 t320 _ ?side1 ?side2 A181.out).mono ?_
                        (case side1 => exact cB HR0_0 HB)
                        (case side2 => exact HC0_0.out)
                        rintro e w228 ⟨v321, rfl, ho0, hb⟩
                        refine ⟨_, rfl, ?_⟩
                        have HO322 := Aside0.mk (Kd.R_lower (Kd.R_new' ho0 (Kd.R_lt t20_)) (below_size t6_))
                        replace HO308 := Aside0.mk (Kd.R_elder' t20_ (Kd.R_base ho0) hb)
                        replace BK297 := bkN BK297 hb
                        replace BK298 := bkN BK298 hb
                        replace BK299 := bkN BK299 hb
                        replace BK309 := bkN BK309 hb
                        replace HB := Aside0.mk (below_step t6_ hb)
                        (try clear hb)
                        (try clear hb2)
                        (try clear hk)
                        (try clear hi)
                        (try clear ho0)
                        obtain ⟨Ao229, co229, eo229⟩ := Kd.R_slice HO322.out
                        (first | subst eo229 | (injection eo229 with f1_ f2_ f3_; have f4_ := f1_.symm; have f5_ := f3_.symm; clear f1_ f2_ f3_; subst f4_; subst f5_))
                        refine hK.out _ _ ⟨bc0 BK297, bc0 BK298, bc1 BK298, bc2 BK298, bc3 BK298, ((HB.out.cell (World.block_lt_of_cell? w _ hw323_0)).trans hw323_0), ((HB.out.cell (World.block_lt_of_cell? w _ hw323_1)).trans hw323_1)⟩ (fun hHeld => ?_)
                        clear hK K
                        refine norm_ (a' := ?_) ?_ ?_
                        rotate_left
                        · show Act.put _ (some 71) _ = _
                          simp only [Act.put, List.setIfInBounds_toArray, List.set_cons_zero, List.set_cons_succ, i64_w, i32_w]
                          rfl
                        refine one_ (i := 13) (N := some 81) #[true, true, true, true, true, true, true, true, true, true, true, true, true, true, false] rfl rfl (one_of HT_.out (by kernel_rfl)) (by decide) (fun K hK => ?_)
                        refine goes_ Try.func79 (by kernel_rfl) rfl #[.agg #[.slice Ao229 t320.length co229], .agg #[.string a1_2, .string ((rd_T71 l0_0 t300).f1)]] (by rfl) rfl rfl t1_ ?_
                        with_reducible refine (spec_l03Put.calls kj3 _ _ t320 a1_2 ((rd_T71 l0_0 t300).f1) t324 _ ?side1 ?side2 A184.out).mono ?_
                        (case side1 => repeat (first | exact (Kd.R_reads' HO322.out).2.2 | (with_reducible refine Kd.C_alloc ?_ _) | (with_reducible refine Kd.C_drewN ?_ _) | (with_reducible refine Kd.C_drew ?_)))
                        (case side2 => exact (Kd.R_reads' HO322.out).2.1)
                        rintro e w230 ⟨v325, rfl, ho0, hb⟩
                        refine ⟨_, rfl, ?_⟩
                        have HO326 := Aside0.mk (Kd.R_lower (Kd.R_new' (Kd.R_new' ho0 (Kd.R_lt t20_)) (Kd.R_lt t75_)) (below_size t6_))
                        replace HO308 := Aside0.mk (Kd.R_elder' t20_ (Kd.R_base ho0) hb)
                        replace HO322 := Aside0.mk (Kd.R_elder' t75_ (Kd.R_base ho0) hb)
                        replace BK297 := bkN BK297 hb
                        replace BK298 := bkN BK298 hb
                        replace BK299 := bkN BK299 hb
                        replace BK309 := bkN BK309 hb
                        replace HB := Aside0.mk (below_step t6_ hb)
                        (try clear hb)
                        (try clear hb2)
                        (try clear hk)
                        (try clear hi)
                        (try clear ho0)
                        obtain ⟨Ao231, co231, eo231⟩ := Kd.R_slice HO326.out
                        (first | subst eo231 | (injection eo231 with f1_ f2_ f3_; have f4_ := f1_.symm; have f5_ := f3_.symm; clear f1_ f2_ f3_; subst f4_; subst f5_))
                        refine hK.out _ _ ⟨bc0 BK297, bc0 BK298, bc1 BK298, bc2 BK298, bc3 BK298, ((HB.out.cell (World.block_lt_of_cell? w _ hw323_0)).trans hw323_0), ((HB.out.cell (World.block_lt_of_cell? w _ hw323_1)).trans hw323_1)⟩ (fun hHeld => ?_)
                        clear hK K
                        refine norm_ (a' := ?_) ?_ ?_
                        rotate_left
                        · show Act.put _ (some 81) _ = _
                          simp only [Act.put, List.setIfInBounds_toArray, List.set_cons_zero, List.set_cons_succ, i64_w, i32_w]
                          rfl
                        refine one_ (i := 14) (N := none) #[true, true, true, true, true, true, true, true, true, true, true, true, true, true, true] rfl rfl (one_of HT_.out (by kernel_rfl)) (by decide) (fun K hK => ?_)
                        have hs232 : w230.cell? ⟨gb309, 0, none⟩ = some (.slice Ao218 y306.length co218) := bc0 BK309
                        have hfs232 := bf BK309 0
                        have hns232_0 := NB297_309.out
                        have hns232_1 := NB298_309.out
                        have hns232_2 := NB299_309.out
                        have hms232_0 := NB309_297.out
                        have hms232_1 := NB309_298.out
                        have hms232_2 := NB309_299.out
                        refine skip_ (w1 := ?_) (by rfl) rfl ?_ ?_
                        rotate_left
                        · go_simp
                          rfl
                        refine hK.out _ _ ⟨((cell_far (p := ⟨gb309, _, none⟩) NB297_309.out _).trans (hHeld.1)), ((cell_far (p := ⟨gb309, _, none⟩) NB298_309.out _).trans (hHeld.2.1)), ((cell_far (p := ⟨gb309, _, none⟩) NB298_309.out _).trans (hHeld.2.2.1)), ((cell_far (p := ⟨gb309, _, none⟩) NB298_309.out _).trans (hHeld.2.2.2.1)), ((cell_far (p := ⟨gb309, _, none⟩) NB298_309.out _).trans (hHeld.2.2.2.2.1)), ((cell_far (p := ⟨gb309, _, none⟩) (by first | exact Nat.ne_of_lt (Nat.lt_of_lt_of_le (by have := World.block_lt_of_cell? _ _ hw323_0; first | rwa [add_block] at this | exact this) GW309.out) | (rw [add_block]; exact Nat.ne_of_lt (Nat.lt_of_lt_of_le (by have := World.block_lt_of_cell? _ _ hw323_0; first | rwa [add_block] at this | exact this) GW309.out)) | (show (Addr.add _ _).block ≠ _; rw [add_block]; exact Nat.ne_of_lt (Nat.lt_of_lt_of_le (by have := World.block_lt_of_cell? _ _ hw323_0; first | rwa [add_block] at this | exact this) GW309.out)) | (dsimp only; exact Nat.ne_of_lt (Nat.lt_of_lt_of_le (by have := World.block_lt_of_cell? _ _ hw323_0; first | rwa [add_block] at this | exact this) GW309.out))) _).trans (hHeld.2.2.2.2.2.1)), ((cell_far (p := ⟨gb309, _, none⟩) (by first | exact Nat.ne_of_lt (Nat.lt_of_lt_of_le (by have := World.block_lt_of_cell? _ _ hw323_1; first | rwa [add_block] at this | exact this) GW309.out) | (rw [add_block]; exact Nat.ne_of_lt (Nat.lt_of_lt_of_le (by have := World.block_lt_of_cell? _ _ hw323_1; first | rwa [add_block] at this | exact this) GW309.out)) | (show (Addr.add _ _).block ≠ _; rw [add_block]; exact Nat.ne_of_lt (Nat.lt_of_lt_of_le (by have := World.block_lt_of_cell? _ _ hw323_1; first | rwa [add_block] at this | exact this) GW309.out)) | (dsimp only; exact Nat.ne_of_lt (Nat.lt_of_lt_of_le (by have := World.block_lt_of_cell? _ _ hw323_1; first | rwa [add_block] at this | exact this) GW309.out))) _).trans (hHeld.2.2.2.2.2.2))⟩ (fun hHeld => ?_)
                        clear hK K
                        refine done_ (done_of HT_.out (by kernel_rfl)) ?_
                        have hcz233_0 := bc0 BK309
                        have hfz233_0 := bf BK309 0
                        try go_wp2_with (first | ((with_reducible refine gate_callee (f := 56) rfl ?_); refine goesL_ (some 89) rfl rfl Try.func56 (by kernel_rfl) rfl #[.agg #[.slice Ao231 t324.length co231]] rfl t1_ ?_; (with_reducible refine (spec_DiskOk.calls kj3 _ _ t324 false _ ?side1 ?side2 A185.out).mono ?_); (case side1 => refine (Kd.R_reads' (e := 71) (base := w.heap.size) (ok := fun k_ => ((True ∧ some k_ ≠ (.slice Ao218 y306.length co218 : Value).ownBlock) ∧ some k_ ≠ (.slice Ao229 t320.length co229 : Value).ownBlock)) (n := t324.length) (c := co231) ?_).2.2; exact (by (with_reducible repeat (first | apply Kd.R_alloc | apply Kd.R_drewN | apply Kd.R_drew)); exact (Kd.R_mono (Kd.R_far (p := ⟨gb309, 0, none⟩) (Kd.R_types HO326.out BK309.out (by decide)) (fun _ hk => hk.2) (.slice Ao231 t324.length co231)) (fun _ h_ => h_.1)))); (case side2 => exact (Kd.R_reads' HO326.out).2.1); rintro e w234 ⟨rfl, hb⟩; refine ⟨_, rfl, ?_⟩; replace HO308 := Aside0.mk (Kd.R_below (by (with_reducible repeat (first | apply Kd.R_alloc | apply Kd.R_drewN | apply Kd.R_drew)); exact (Kd.R_mono (Kd.R_far (p := ⟨gb309, 0, none⟩) (Kd.R_types HO308.out BK309.out (by decide)) (fun _ hk => hk.2) (.slice Ao231 t324.length co231)) (fun _ h_ => h_.1))) hb); replace HO322 := Aside0.mk (Kd.R_below (by (with_reducible repeat (first | apply Kd.R_alloc | apply Kd.R_drewN | apply Kd.R_drew)); exact (Kd.R_mono (Kd.R_far (p := ⟨gb309, 0, none⟩) (Kd.R_types HO322.out BK309.out (by decide)) (fun _ hk => hk.2) (.slice Ao231 t324.length co231)) (fun _ h_ => h_.1))) hb); replace HO326 := Aside0.mk (Kd.R_below (by (with_reducible repeat (first | apply Kd.R_alloc | apply Kd.R_drewN | apply Kd.R_drew)); exact (Kd.R_mono (Kd.R_far (p := ⟨gb309, 0, none⟩) (Kd.R_types HO326.out BK309.out (by decide)) (fun _ hk => hk.2) (.slice Ao231 t324.length co231)) (fun _ h_ => h_.1))) hb); replace BK297 := bkF BK297 NB297_309 hb; replace BK298 := bkF BK298 NB298_309 hb; replace BK299 := bkF BK299 NB299_309 hb; replace BK309 := Aside0.mk (blk_below (g := gb309) (o := .cells #[.slice Ao231 t324.length co231] 30 (0, 0)) (by (with_reducible repeat (first | refine blk_drewN ?_ _ | refine blk_drew ?_ | refine blk_alloc ?_ _)); refine blk_put (cs := #[.slice Ao218 y306.length co218]) ?_ 0 _ rfl; (with_reducible repeat (first | refine blk_drewN ?_ _ | refine blk_drew ?_ | refine blk_alloc ?_ _)); exact BK309.out) hb); replace HB := Aside0.mk (below_step t6_ hb); (try clear hb); (try clear hb2); (try clear hk); (try clear hi); have hcz235_0 := bc0 BK299; have hfz235_0 := bf BK299 0))
                        refine bodyPost_ret (results_ct rfl _ _ gb299 30 #[.slice none 0 0] (0, 0) _ rfl (by (with_reducible repeat (first | refine blk_drewN ?_ _ | refine blk_drew ?_ | refine blk_alloc ?_ _)); refine blk_put (cs := #[.slice none 0 0]) ?_ 0 _ rfl; (with_reducible repeat (first | refine blk_drewN ?_ _ | refine blk_drew ?_ | refine blk_alloc ?_ _)); exact BK299.out) Try.underlying30 rfl (by kernel_rfl)) rfl ?_
                        exact ⟨_, by first | rfl | (simp [errW_none, errW_some] <;> rfl) | (simp [*, errW_none, errW_some] <;> rfl), by first | exact Kd.R_nil _ _ _ _ _ | exact Kd.N_nil _ _ _ _ _ | exact Kd.V_nil _ _ _ _ _ | exact Kd.Q_nil _ _ _ _ _ | exact Kd.S_nil _ _ _ _ _, t6_⟩
                    · rw [if_neg c183] at H
                      exact absurd H (by simp)
                  · rw [if_neg c182] at H
                    exact absurd H (by simp)
              · rw [if_neg c144] at H
                have c144b0 : (a1_0 == 3) = false := beq_eq_false_iff_ne.mpr c144
                have c144b1 : (a1_0 != 3) = true := bne_iff_ne.mpr c144
                by_cases c236 : a1_0 = 4
                · rw [if_pos c236] at H
                  have c236b0 : (a1_0 == 4) = true := beq_iff_eq.mpr c236
                  have c236b1 : (a1_0 != 4) = false := bne_eq_false_iff_eq.mpr c236
                  clear c236
                  replace H := Option.bind_eq_some_iff.mp H
                  obtain ⟨t328, A2370, H⟩ := H
                  replace H : ((spec_DiskOk.f kj3 t328).bind fun t331 => (if t331 = true then (some (t328, true)) else (some (([] : List (S71)), false)))) = some (r1, r2) := H
                  have A237 := Aside0.mk A2370
                  clear A2370
                  replace H := Option.bind_eq_some_iff.mp H
                  obtain ⟨t331, A2380, H⟩ := H
                  replace H : (if t331 = true then (some (t328, true)) else (some (([] : List (S71)), false))) = some (r1, r2) := H
                  have A238 := Aside0.mk A2380
                  clear A2380
                  by_cases c239 : t331 = true
                  · subst c239
                    have H1 : (some (t328, true)) = some (r1, r2) := by rw [if_pos rfl] at H; exact H
                    clear H
                    have H := H1
                    clear H1
                    simp only [Option.some.injEq, Prod.mk.injEq] at H
                    obtain ⟨rfl, rfl⟩ := H
                    go_wp2_with (first | ((with_reducible refine gate_dst (N := 31) rfl ?_); refine Kd.R_lit k71 _ 71 ?hg (N := 31) ?hd (xs := ([] : List (S71))) (inner := []) (ok := fun _ => True) (okp := fun _ => True) ?hr ?hp (fun _ hk => hk) trivial (Below.refl _ _) (Nat.le_refl _) (by simp) ?_; (case hd => rfl); (case hg => rfl); (case hr => first | (go_simp; done) | (go_simp; rfl)); (case hp => exact (Reps.none _ _)); intro v304 w240 ho241 hb hg_ hnew_; clear hg_ hnew_; (first | rw [← Ny303.out] at ho241 | (simp only [Int.reduceToNat] at ho241; rw [← Ny303.out] at ho241)); have HO305 := Aside0.mk (Kd.R_lower ho241 (below_size t2_)); replace BK297 := bkN BK297 hb; replace BK298 := bkN BK298 hb; replace BK299 := bkN BK299 hb; replace HB := Aside0.mk (below_step t2_ hb); clear hb ho241; have hnb242 := NB297_298.out; have hnc242 := NB298_297.out; have hnb243 := NB297_299.out; have hnc243 := NB299_297.out; have hcz244_0 := bc0 BK297; have hfz244_0 := bf BK297 0) | ((with_reducible refine gate_builtin (b := .append) (xs := #[.tmp 31, .tmp 33]) rfl ?_); at_builtin; refine Kd.R_append_rows k71 (w0 := w) w.heap.size rfl (.tmp 31) (.tmp 33) 28 71 (.agg #[(.string ⟨#[]⟩), (.string ⟨#[]⟩)]) 32 rfl Try.underlying28 info71 rfl (by decide) (by omega) v304 y303 l0_0 _ _ _ (fun _ => True) (fun _ => False) rfl rfl ?aO ?aR (fun _ _ h => h) (fun _ h => h.elim) ?aF ?aB ?aS ?aL ?_; (case aR => exact cB HR0_0 HB); (case aB => exact t2_); (case aF => exact (fun _ _ => trivial)); (case aO => exact t46_); (case aS => exact (below_size t2_)); (case aL => have := LMc45.out; omega); intro v307 w245 ho hb hg hat; rw [← Ny306.out] at ho; have n0_ := Aside0.mk (blk_grown (g := gb297) (o := .cells #[.slice A0_0 l0_0.length c0_0] 30 (0, 0)) t37_ hg (Kd.R_ne HO305.out BK297.out (by decide))); have n1_ := Aside0.mk (blk_grown (g := gb298) (o := .cells #[.int .i64 a1_0, .string a1_1, .string a1_2, .string a1_3] 65 (0, 0)) t38_ hg (Kd.R_ne HO305.out BK298.out (by decide))); have n2_ := Aside0.mk (blk_grown (g := gb299) (o := .cells #[.slice none 0 0] 30 (0, 0)) t39_ hg (Kd.R_ne HO305.out BK299.out (by decide))); have n3_ := Aside0.mk (hb); have n4_ := Aside0.mk (ho); clear BK297; clear BK298; clear BK299; clear HB; clear HO305; have BK297 := n0_; have BK298 := n1_; have BK299 := n2_; have HB := n3_; have HO308 := n4_; clear n0_ n1_ n2_ n3_ n4_; clear ho hb hg hat; obtain ⟨Ao246, co246, eo246⟩ := Kd.R_slice HO308.out; subst eo246) | ((with_reducible refine gate_dst (N := 7) rfl ?_); refine boxE (N := 7) (cs := #[.slice none 0 0]) (t := 30) (h := ?_); intro gb309 hg w247 hbox hb; replace HO308 := Aside0.mk (Kd.R_below t20_ hb); have BK309 := Aside0.mk (hbox); have GW309 := Aside0.mk ((t14_ : w.heap.size ≤ gb309)); have GE309 := Aside0.mk ((t14_ : w.heap.size ≤ gb309)); replace HB := Aside0.mk (below_step t2_ hb); have NB297_309 := nbL BK297 hg; have NB309_297 := nbG BK297 hg; replace BK297 := bkN BK297 hb; have NB298_309 := nbL BK298 hg; have NB309_298 := nbG BK298 hg; replace BK298 := bkN BK298 hb; have NB299_309 := nbL BK299 hg; have NB309_299 := nbG BK299 hg; replace BK299 := bkN BK299 hb; clear hb hbox hg; have hnb248 := NB309_297.out; have hnc248 := NB297_309.out; have hnb249 := NB309_298.out; have hnc249 := NB298_309.out; have hnb250 := NB309_299.out; have hnc250 := NB299_309.out; have hcz251_0 := bc0 BK309; have hfz251_0 := bf BK309 0; have hnb252 := NB298_299.out; have hnc252 := NB299_298.out; have hcz253_0 := bc0 BK298; have hcz253_1 := bc1 BK298; have hcz253_2 := bc2 BK298; have hcz253_3 := bc3 BK298; have hfz253_0 := bf BK298 0; have hfz253_1 := bf BK298 1; have hfz253_2 := bf BK298 2; have hfz253_3 := bf BK298 3; have hcz254_0 := bc0 BK297; have hfz254_0 := bf BK297 0) | ((with_reducible refine gate_callee (f := 88) rfl ?_); refine goesL_ (some 87) rfl rfl Try.func88 (by kernel_rfl) rfl #[.agg #[.slice A0_0 l0_0.length c0_0], .string a1_1] rfl t1_ ?_; (with_reducible refine (spec_l03Drop.calls kj3 _ _ l0_0 a1_1 t328 _ ?side1 ?side2 A237.out).mono ?_); (case side1 => exact Kd.C_below HR0_0.out t6_); (case side2 => exact HC0_0.out); rintro e w255 ⟨v329, rfl, ho0, hb⟩; refine ⟨_, rfl, ?_⟩; have HO330 := Aside0.mk (Kd.R_lower (Kd.R_new' ho0 (Kd.R_lt (by (with_reducible repeat (first | apply Kd.R_alloc | apply Kd.R_drewN | apply Kd.R_drew)); exact (Kd.R_mono (Kd.R_far (p := ⟨gb309, 0, none⟩) (Kd.R_types HO308.out BK309.out (by decide)) (fun _ hk => hk.2) (.slice Ao246 y306.length co246)) (fun _ h_ => h_.1))))) (below_size t6_)); replace HO308 := Aside0.mk (Kd.R_elder' (by (with_reducible repeat (first | apply Kd.R_alloc | apply Kd.R_drewN | apply Kd.R_drew)); exact (Kd.R_mono (Kd.R_far (p := ⟨gb309, 0, none⟩) (Kd.R_types HO308.out BK309.out (by decide)) (fun _ hk => hk.2) (.slice Ao246 y306.length co246)) (fun _ h_ => h_.1))) (Kd.R_base ho0) hb); replace BK297 := bkF BK297 NB297_309 hb; replace BK298 := bkF BK298 NB298_309 hb; replace BK299 := bkF BK299 NB299_309 hb; replace BK309 := Aside0.mk (blk_below (g := gb309) (o := .cells #[.slice Ao246 y306.length co246] 30 (0, 0)) (by (with_reducible repeat (first | refine blk_drewN ?_ _ | refine blk_drew ?_ | refine blk_alloc ?_ _)); refine blk_put (cs := #[.slice none 0 0]) ?_ 0 _ rfl; (with_reducible repeat (first | refine blk_drewN ?_ _ | refine blk_drew ?_ | refine blk_alloc ?_ _)); exact BK309.out) hb); replace HB := Aside0.mk (below_step t6_ hb); (try clear hb); (try clear hb2); (try clear hk); (try clear hi); (try clear ho0); obtain ⟨Ao256, co256, eo256⟩ := Kd.R_slice HO330.out; subst eo256; have hcz257_0 := bc0 BK309; have hfz257_0 := bf BK309 0) | ((with_reducible refine gate_callee (f := 56) rfl ?_); refine goesL_ (some 89) rfl rfl Try.func56 (by kernel_rfl) rfl #[.agg #[.slice Ao256 t328.length co256]] rfl t1_ ?_; (with_reducible refine (spec_DiskOk.calls kj3 _ _ t328 true _ ?side1 ?side2 A238.out).mono ?_); (case side1 => refine (Kd.R_reads' (e := 71) (base := w.heap.size) (ok := fun k_ => (True ∧ some k_ ≠ (.slice Ao246 y306.length co246 : Value).ownBlock)) (n := t328.length) (c := co256) ?_).2.2; exact (by (with_reducible repeat (first | apply Kd.R_alloc | apply Kd.R_drewN | apply Kd.R_drew)); exact (Kd.R_mono (Kd.R_far (p := ⟨gb309, 0, none⟩) (Kd.R_types HO330.out BK309.out (by decide)) (fun _ hk => hk.2) (.slice Ao256 t328.length co256)) (fun _ h_ => h_.1)))); (case side2 => exact (Kd.R_reads' HO330.out).2.1); rintro e w258 ⟨rfl, hb⟩; refine ⟨_, rfl, ?_⟩; replace HO308 := Aside0.mk (Kd.R_below (by (with_reducible repeat (first | apply Kd.R_alloc | apply Kd.R_drewN | apply Kd.R_drew)); exact (Kd.R_mono (Kd.R_far (p := ⟨gb309, 0, none⟩) (Kd.R_types HO308.out BK309.out (by decide)) (fun _ hk => hk.2) (.slice Ao256 t328.length co256)) (fun _ h_ => h_.1))) hb); replace HO330 := Aside0.mk (Kd.R_below (by (with_reducible repeat (first | apply Kd.R_alloc | apply Kd.R_drewN | apply Kd.R_drew)); exact (Kd.R_mono (Kd.R_far (p := ⟨gb309, 0, none⟩) (Kd.R_types HO330.out BK309.out (by decide)) (fun _ hk => hk.2) (.slice Ao256 t328.length co256)) (fun _ h_ => h_.1))) hb); replace BK297 := bkF BK297 NB297_309 hb; replace BK298 := bkF BK298 NB298_309 hb; replace BK299 := bkF BK299 NB299_309 hb; replace BK309 := Aside0.mk (blk_below (g := gb309) (o := .cells #[.slice Ao256 t328.length co256] 30 (0, 0)) (by (with_reducible repeat (first | refine blk_drewN ?_ _ | refine blk_drew ?_ | refine blk_alloc ?_ _)); refine blk_put (cs := #[.slice Ao246 y306.length co246]) ?_ 0 _ rfl; (with_reducible repeat (first | refine blk_drewN ?_ _ | refine blk_drew ?_ | refine blk_alloc ?_ _)); exact BK309.out) hb); replace HB := Aside0.mk (below_step t6_ hb); (try clear hb); (try clear hb2); (try clear hk); (try clear hi); have hcz259_0 := bc0 BK309; have hfz259_0 := bf BK309 0; have hcz260_0 := bc0 BK299; have hfz260_0 := bf BK299 0))
                    refine bodyPost_ret (results_ct rfl _ _ gb299 30 #[.slice Ao256 t328.length co256] (0, 0) _ rfl (by (with_reducible repeat (first | refine blk_drewN ?_ _ | refine blk_drew ?_ | refine blk_alloc ?_ _)); refine blk_put (cs := #[.slice none 0 0]) ?_ 0 _ rfl; (with_reducible repeat (first | refine blk_drewN ?_ _ | refine blk_drew ?_ | refine blk_alloc ?_ _)); exact BK299.out) Try.underlying30 rfl (by kernel_rfl)) rfl ?_
                    exact ⟨_, by first | rfl | (simp [errW_none, errW_some] <;> rfl) | (simp [*, errW_none, errW_some] <;> rfl), by (with_reducible repeat (first | apply Kd.R_alloc | apply Kd.R_drewN | apply Kd.R_drew)); exact Kd.R_mono (Kd.R_far (p := ⟨gb299, 0, none⟩) (Kd.R_types HO330.out BK299.out (by decide)) (fun _ hk => hk.2) (.slice Ao256 t328.length co256)) (fun _ hk => trivial), t6_⟩
                  · replace c239 := Bool.eq_false_iff.mpr c239
                    subst c239
                    have H1 : (some (([] : List (S71)), false)) = some (r1, r2) := by rw [if_neg (show ¬ (false = true) by decide)] at H; exact H
                    clear H
                    have H := H1
                    clear H1
                    simp only [Option.some.injEq, Prod.mk.injEq] at H
                    obtain ⟨rfl, rfl⟩ := H
                    go_wp2_with (first | ((with_reducible refine gate_dst (N := 31) rfl ?_); refine Kd.R_lit k71 _ 71 ?hg (N := 31) ?hd (xs := ([] : List (S71))) (inner := []) (ok := fun _ => True) (okp := fun _ => True) ?hr ?hp (fun _ hk => hk) trivial (Below.refl _ _) (Nat.le_refl _) (by simp) ?_; (case hd => rfl); (case hg => rfl); (case hr => first | (go_simp; done) | (go_simp; rfl)); (case hp => exact (Reps.none _ _)); intro v304 w261 ho262 hb hg_ hnew_; clear hg_ hnew_; (first | rw [← Ny303.out] at ho262 | (simp only [Int.reduceToNat] at ho262; rw [← Ny303.out] at ho262)); have HO305 := Aside0.mk (Kd.R_lower ho262 (below_size t2_)); replace BK297 := bkN BK297 hb; replace BK298 := bkN BK298 hb; replace BK299 := bkN BK299 hb; replace HB := Aside0.mk (below_step t2_ hb); clear hb ho262; have hnb263 := NB297_298.out; have hnc263 := NB298_297.out; have hnb264 := NB297_299.out; have hnc264 := NB299_297.out; have hcz265_0 := bc0 BK297; have hfz265_0 := bf BK297 0) | ((with_reducible refine gate_builtin (b := .append) (xs := #[.tmp 31, .tmp 33]) rfl ?_); at_builtin; refine Kd.R_append_rows k71 (w0 := w) w.heap.size rfl (.tmp 31) (.tmp 33) 28 71 (.agg #[(.string ⟨#[]⟩), (.string ⟨#[]⟩)]) 32 rfl Try.underlying28 info71 rfl (by decide) (by omega) v304 y303 l0_0 _ _ _ (fun _ => True) (fun _ => False) rfl rfl ?aO ?aR (fun _ _ h => h) (fun _ h => h.elim) ?aF ?aB ?aS ?aL ?_; (case aR => exact cB HR0_0 HB); (case aB => exact t2_); (case aF => exact (fun _ _ => trivial)); (case aO => exact t46_); (case aS => exact (below_size t2_)); (case aL => have := LMc45.out; omega); intro v307 w266 ho hb hg hat; rw [← Ny306.out] at ho; have n0_ := Aside0.mk (blk_grown (g := gb297) (o := .cells #[.slice A0_0 l0_0.length c0_0] 30 (0, 0)) t37_ hg (Kd.R_ne HO305.out BK297.out (by decide))); have n1_ := Aside0.mk (blk_grown (g := gb298) (o := .cells #[.int .i64 a1_0, .string a1_1, .string a1_2, .string a1_3] 65 (0, 0)) t38_ hg (Kd.R_ne HO305.out BK298.out (by decide))); have n2_ := Aside0.mk (blk_grown (g := gb299) (o := .cells #[.slice none 0 0] 30 (0, 0)) t39_ hg (Kd.R_ne HO305.out BK299.out (by decide))); have n3_ := Aside0.mk (hb); have n4_ := Aside0.mk (ho); clear BK297; clear BK298; clear BK299; clear HB; clear HO305; have BK297 := n0_; have BK298 := n1_; have BK299 := n2_; have HB := n3_; have HO308 := n4_; clear n0_ n1_ n2_ n3_ n4_; clear ho hb hg hat; obtain ⟨Ao267, co267, eo267⟩ := Kd.R_slice HO308.out; subst eo267) | ((with_reducible refine gate_dst (N := 7) rfl ?_); refine boxE (N := 7) (cs := #[.slice none 0 0]) (t := 30) (h := ?_); intro gb309 hg w268 hbox hb; replace HO308 := Aside0.mk (Kd.R_below t20_ hb); have BK309 := Aside0.mk (hbox); have GW309 := Aside0.mk ((t14_ : w.heap.size ≤ gb309)); have GE309 := Aside0.mk ((t14_ : w.heap.size ≤ gb309)); replace HB := Aside0.mk (below_step t2_ hb); have NB297_309 := nbL BK297 hg; have NB309_297 := nbG BK297 hg; replace BK297 := bkN BK297 hb; have NB298_309 := nbL BK298 hg; have NB309_298 := nbG BK298 hg; replace BK298 := bkN BK298 hb; have NB299_309 := nbL BK299 hg; have NB309_299 := nbG BK299 hg; replace BK299 := bkN BK299 hb; clear hb hbox hg; have hnb269 := NB309_297.out; have hnc269 := NB297_309.out; have hnb270 := NB309_298.out; have hnc270 := NB298_309.out; have hnb271 := NB309_299.out; have hnc271 := NB299_309.out; have hcz272_0 := bc0 BK309; have hfz272_0 := bf BK309 0; have hnb273 := NB298_299.out; have hnc273 := NB299_298.out; have hcz274_0 := bc0 BK298; have hcz274_1 := bc1 BK298; have hcz274_2 := bc2 BK298; have hcz274_3 := bc3 BK298; have hfz274_0 := bf BK298 0; have hfz274_1 := bf BK298 1; have hfz274_2 := bf BK298 2; have hfz274_3 := bf BK298 3; have hcz275_0 := bc0 BK297; have hfz275_0 := bf BK297 0) | ((with_reducible refine gate_callee (f := 88) rfl ?_); refine goesL_ (some 87) rfl rfl Try.func88 (by kernel_rfl) rfl #[.agg #[.slice A0_0 l0_0.length c0_0], .string a1_1] rfl t1_ ?_; (with_reducible refine (spec_l03Drop.calls kj3 _ _ l0_0 a1_1 t328 _ ?side1 ?side2 A237.out).mono ?_); (case side1 => exact Kd.C_below HR0_0.out t6_); (case side2 => exact HC0_0.out); rintro e w276 ⟨v329, rfl, ho0, hb⟩; refine ⟨_, rfl, ?_⟩; have HO330 := Aside0.mk (Kd.R_lower (Kd.R_new' ho0 (Kd.R_lt (by (with_reducible repeat (first | apply Kd.R_alloc | apply Kd.R_drewN | apply Kd.R_drew)); exact (Kd.R_mono (Kd.R_far (p := ⟨gb309, 0, none⟩) (Kd.R_types HO308.out BK309.out (by decide)) (fun _ hk => hk.2) (.slice Ao267 y306.length co267)) (fun _ h_ => h_.1))))) (below_size t6_)); replace HO308 := Aside0.mk (Kd.R_elder' (by (with_reducible repeat (first | apply Kd.R_alloc | apply Kd.R_drewN | apply Kd.R_drew)); exact (Kd.R_mono (Kd.R_far (p := ⟨gb309, 0, none⟩) (Kd.R_types HO308.out BK309.out (by decide)) (fun _ hk => hk.2) (.slice Ao267 y306.length co267)) (fun _ h_ => h_.1))) (Kd.R_base ho0) hb); replace BK297 := bkF BK297 NB297_309 hb; replace BK298 := bkF BK298 NB298_309 hb; replace BK299 := bkF BK299 NB299_309 hb; replace BK309 := Aside0.mk (blk_below (g := gb309) (o := .cells #[.slice Ao267 y306.length co267] 30 (0, 0)) (by (with_reducible repeat (first | refine blk_drewN ?_ _ | refine blk_drew ?_ | refine blk_alloc ?_ _)); refine blk_put (cs := #[.slice none 0 0]) ?_ 0 _ rfl; (with_reducible repeat (first | refine blk_drewN ?_ _ | refine blk_drew ?_ | refine blk_alloc ?_ _)); exact BK309.out) hb); replace HB := Aside0.mk (below_step t6_ hb); (try clear hb); (try clear hb2); (try clear hk); (try clear hi); (try clear ho0); obtain ⟨Ao277, co277, eo277⟩ := Kd.R_slice HO330.out; subst eo277; have hcz278_0 := bc0 BK309; have hfz278_0 := bf BK309 0) | ((with_reducible refine gate_callee (f := 56) rfl ?_); refine goesL_ (some 89) rfl rfl Try.func56 (by kernel_rfl) rfl #[.agg #[.slice Ao277 t328.length co277]] rfl t1_ ?_; (with_reducible refine (spec_DiskOk.calls kj3 _ _ t328 false _ ?side1 ?side2 A238.out).mono ?_); (case side1 => refine (Kd.R_reads' (e := 71) (base := w.heap.size) (ok := fun k_ => (True ∧ some k_ ≠ (.slice Ao267 y306.length co267 : Value).ownBlock)) (n := t328.length) (c := co277) ?_).2.2; exact (by (with_reducible repeat (first | apply Kd.R_alloc | apply Kd.R_drewN | apply Kd.R_drew)); exact (Kd.R_mono (Kd.R_far (p := ⟨gb309, 0, none⟩) (Kd.R_types HO330.out BK309.out (by decide)) (fun _ hk => hk.2) (.slice Ao277 t328.length co277)) (fun _ h_ => h_.1)))); (case side2 => exact (Kd.R_reads' HO330.out).2.1); rintro e w279 ⟨rfl, hb⟩; refine ⟨_, rfl, ?_⟩; replace HO308 := Aside0.mk (Kd.R_below (by (with_reducible repeat (first | apply Kd.R_alloc | apply Kd.R_drewN | apply Kd.R_drew)); exact (Kd.R_mono (Kd.R_far (p := ⟨gb309, 0, none⟩) (Kd.R_types HO308.out BK309.out (by decide)) (fun _ hk => hk.2) (.slice Ao277 t328.length co277)) (fun _ h_ => h_.1))) hb); replace HO330 := Aside0.mk (Kd.R_below (by (with_reducible repeat (first | apply Kd.R_alloc | apply Kd.R_drewN | apply Kd.R_drew)); exact (Kd.R_mono (Kd.R_far (p := ⟨gb309, 0, none⟩) (Kd.R_types HO330.out BK309.out (by decide)) (fun _ hk => hk.2) (.slice Ao277 t328.length co277)) (fun _ h_ => h_.1))) hb); replace BK297 := bkF BK297 NB297_309 hb; replace BK298 := bkF BK298 NB298_309 hb; replace BK299 := bkF BK299 NB299_309 hb; replace BK309 := Aside0.mk (blk_below (g := gb309) (o := .cells #[.slice Ao277 t328.length co277] 30 (0, 0)) (by (with_reducible repeat (first | refine blk_drewN ?_ _ | refine blk_drew ?_ | refine blk_alloc ?_ _)); refine blk_put (cs := #[.slice Ao267 y306.length co267]) ?_ 0 _ rfl; (with_reducible repeat (first | refine blk_drewN ?_ _ | refine blk_drew ?_ | refine blk_alloc ?_ _)); exact BK309.out) hb); replace HB := Aside0.mk (below_step t6_ hb); (try clear hb); (try clear hb2); (try clear hk); (try clear hi); have hcz280_0 := bc0 BK299; have hfz280_0 := bf BK299 0))
                    refine bodyPost_ret (results_ct rfl _ _ gb299 30 #[.slice none 0 0] (0, 0) _ rfl (by (with_reducible repeat (first | refine blk_drewN ?_ _ | refine blk_drew ?_ | refine blk_alloc ?_ _)); refine blk_put (cs := #[.slice none 0 0]) ?_ 0 _ rfl; (with_reducible repeat (first | refine blk_drewN ?_ _ | refine blk_drew ?_ | refine blk_alloc ?_ _)); exact BK299.out) Try.underlying30 rfl (by kernel_rfl)) rfl ?_
                    exact ⟨_, by first | rfl | (simp [errW_none, errW_some] <;> rfl) | (simp [*, errW_none, errW_some] <;> rfl), by first | exact Kd.R_nil _ _ _ _ _ | exact Kd.N_nil _ _ _ _ _ | exact Kd.V_nil _ _ _ _ _ | exact Kd.Q_nil _ _ _ _ _ | exact Kd.S_nil _ _ _ _ _, t6_⟩
                · rw [if_neg c236] at H
                  have c236b0 : (a1_0 == 4) = false := beq_eq_false_iff_ne.mpr c236
                  have c236b1 : (a1_0 != 4) = true := bne_iff_ne.mpr c236
                  replace H := Option.bind_eq_some_iff.mp H
                  obtain ⟨t332, A2810, H⟩ := H
                  replace H : (if t332 = true then (some (y306, true)) else (some (([] : List (S71)), false))) = some (r1, r2) := H
                  have A281 := Aside0.mk A2810
                  clear A2810
                  by_cases c282 : t332 = true
                  · subst c282
                    have H1 : (some (y306, true)) = some (r1, r2) := by rw [if_pos rfl] at H; exact H
                    clear H
                    have H := H1
                    clear H1
                    simp only [Option.some.injEq, Prod.mk.injEq] at H
                    obtain ⟨rfl, rfl⟩ := H
                    go_wp2_with (first | ((with_reducible refine gate_dst (N := 31) rfl ?_); refine Kd.R_lit k71 _ 71 ?hg (N := 31) ?hd (xs := ([] : List (S71))) (inner := []) (ok := fun _ => True) (okp := fun _ => True) ?hr ?hp (fun _ hk => hk) trivial (Below.refl _ _) (Nat.le_refl _) (by simp) ?_; (case hd => rfl); (case hg => rfl); (case hr => first | (go_simp; done) | (go_simp; rfl)); (case hp => exact (Reps.none _ _)); intro v304 w283 ho284 hb hg_ hnew_; clear hg_ hnew_; (first | rw [← Ny303.out] at ho284 | (simp only [Int.reduceToNat] at ho284; rw [← Ny303.out] at ho284)); have HO305 := Aside0.mk (Kd.R_lower ho284 (below_size t2_)); replace BK297 := bkN BK297 hb; replace BK298 := bkN BK298 hb; replace BK299 := bkN BK299 hb; replace HB := Aside0.mk (below_step t2_ hb); clear hb ho284; have hnb285 := NB297_298.out; have hnc285 := NB298_297.out; have hnb286 := NB297_299.out; have hnc286 := NB299_297.out; have hcz287_0 := bc0 BK297; have hfz287_0 := bf BK297 0) | ((with_reducible refine gate_builtin (b := .append) (xs := #[.tmp 31, .tmp 33]) rfl ?_); at_builtin; refine Kd.R_append_rows k71 (w0 := w) w.heap.size rfl (.tmp 31) (.tmp 33) 28 71 (.agg #[(.string ⟨#[]⟩), (.string ⟨#[]⟩)]) 32 rfl Try.underlying28 info71 rfl (by decide) (by omega) v304 y303 l0_0 _ _ _ (fun _ => True) (fun _ => False) rfl rfl ?aO ?aR (fun _ _ h => h) (fun _ h => h.elim) ?aF ?aB ?aS ?aL ?_; (case aR => exact cB HR0_0 HB); (case aB => exact t2_); (case aF => exact (fun _ _ => trivial)); (case aO => exact t46_); (case aS => exact (below_size t2_)); (case aL => have := LMc45.out; omega); intro v307 w288 ho hb hg hat; rw [← Ny306.out] at ho; have n0_ := Aside0.mk (blk_grown (g := gb297) (o := .cells #[.slice A0_0 l0_0.length c0_0] 30 (0, 0)) t37_ hg (Kd.R_ne HO305.out BK297.out (by decide))); have n1_ := Aside0.mk (blk_grown (g := gb298) (o := .cells #[.int .i64 a1_0, .string a1_1, .string a1_2, .string a1_3] 65 (0, 0)) t38_ hg (Kd.R_ne HO305.out BK298.out (by decide))); have n2_ := Aside0.mk (blk_grown (g := gb299) (o := .cells #[.slice none 0 0] 30 (0, 0)) t39_ hg (Kd.R_ne HO305.out BK299.out (by decide))); have n3_ := Aside0.mk (hb); have n4_ := Aside0.mk (ho); clear BK297; clear BK298; clear BK299; clear HB; clear HO305; have BK297 := n0_; have BK298 := n1_; have BK299 := n2_; have HB := n3_; have HO308 := n4_; clear n0_ n1_ n2_ n3_ n4_; clear ho hb hg hat; obtain ⟨Ao289, co289, eo289⟩ := Kd.R_slice HO308.out; subst eo289) | ((with_reducible refine gate_dst (N := 7) rfl ?_); refine boxE (N := 7) (cs := #[.slice none 0 0]) (t := 30) (h := ?_); intro gb309 hg w290 hbox hb; replace HO308 := Aside0.mk (Kd.R_below t20_ hb); have BK309 := Aside0.mk (hbox); have GW309 := Aside0.mk ((t14_ : w.heap.size ≤ gb309)); have GE309 := Aside0.mk ((t14_ : w.heap.size ≤ gb309)); replace HB := Aside0.mk (below_step t2_ hb); have NB297_309 := nbL BK297 hg; have NB309_297 := nbG BK297 hg; replace BK297 := bkN BK297 hb; have NB298_309 := nbL BK298 hg; have NB309_298 := nbG BK298 hg; replace BK298 := bkN BK298 hb; have NB299_309 := nbL BK299 hg; have NB309_299 := nbG BK299 hg; replace BK299 := bkN BK299 hb; clear hb hbox hg; have hnb291 := NB309_297.out; have hnc291 := NB297_309.out; have hnb292 := NB309_298.out; have hnc292 := NB298_309.out; have hnb293 := NB309_299.out; have hnc293 := NB299_309.out; have hcz294_0 := bc0 BK309; have hfz294_0 := bf BK309 0; have hnb295 := NB298_299.out; have hnc295 := NB299_298.out; have hcz296_0 := bc0 BK298; have hcz296_1 := bc1 BK298; have hcz296_2 := bc2 BK298; have hcz296_3 := bc3 BK298; have hfz296_0 := bf BK298 0; have hfz296_1 := bf BK298 1; have hfz296_2 := bf BK298 2; have hfz296_3 := bf BK298 3) | ((with_reducible refine gate_callee (f := 56) rfl ?_); refine goesL_ (some 89) rfl rfl Try.func56 (by kernel_rfl) rfl #[.agg #[.slice Ao289 y306.length co289]] rfl t1_ ?_; (with_reducible refine (spec_DiskOk.calls kj3 _ _ y306 true _ ?side1 ?side2 A281.out).mono ?_); (case side1 => refine (Kd.R_reads' (e := 71) (base := w.heap.size) (ok := fun k_ => True) (n := y306.length) (c := co289) ?_).2.2; exact (by (with_reducible repeat (first | apply Kd.R_alloc | apply Kd.R_drewN | apply Kd.R_drew)); exact (Kd.R_mono (Kd.R_far (p := ⟨gb309, 0, none⟩) (Kd.R_types HO308.out BK309.out (by decide)) (fun _ hk => hk.2) (.slice Ao289 y306.length co289)) (fun _ h_ => h_.1)))); (case side2 => exact (Kd.R_reads' HO308.out).2.1); rintro e w297 ⟨rfl, hb⟩; refine ⟨_, rfl, ?_⟩; replace HO308 := Aside0.mk (Kd.R_below (by (with_reducible repeat (first | apply Kd.R_alloc | apply Kd.R_drewN | apply Kd.R_drew)); exact (Kd.R_mono (Kd.R_far (p := ⟨gb309, 0, none⟩) (Kd.R_types HO308.out BK309.out (by decide)) (fun _ hk => hk.2) (.slice Ao289 y306.length co289)) (fun _ h_ => h_.1))) hb); replace BK297 := bkF BK297 NB297_309 hb; replace BK298 := bkF BK298 NB298_309 hb; replace BK299 := bkF BK299 NB299_309 hb; replace BK309 := Aside0.mk (blk_below (g := gb309) (o := .cells #[.slice Ao289 y306.length co289] 30 (0, 0)) (by (with_reducible repeat (first | refine blk_drewN ?_ _ | refine blk_drew ?_ | refine blk_alloc ?_ _)); refine blk_put (cs := #[.slice none 0 0]) ?_ 0 _ rfl; (with_reducible repeat (first | refine blk_drewN ?_ _ | refine blk_drew ?_ | refine blk_alloc ?_ _)); exact BK309.out) hb); replace HB := Aside0.mk (below_step t6_ hb); (try clear hb); (try clear hb2); (try clear hk); (try clear hi); have hcz298_0 := bc0 BK309; have hfz298_0 := bf BK309 0; have hcz299_0 := bc0 BK299; have hfz299_0 := bf BK299 0))
                    refine bodyPost_ret (results_ct rfl _ _ gb299 30 #[.slice Ao289 y306.length co289] (0, 0) _ rfl (by (with_reducible repeat (first | refine blk_drewN ?_ _ | refine blk_drew ?_ | refine blk_alloc ?_ _)); refine blk_put (cs := #[.slice none 0 0]) ?_ 0 _ rfl; (with_reducible repeat (first | refine blk_drewN ?_ _ | refine blk_drew ?_ | refine blk_alloc ?_ _)); exact BK299.out) Try.underlying30 rfl (by kernel_rfl)) rfl ?_
                    exact ⟨_, by first | rfl | (simp [errW_none, errW_some] <;> rfl) | (simp [*, errW_none, errW_some] <;> rfl), by (with_reducible repeat (first | apply Kd.R_alloc | apply Kd.R_drewN | apply Kd.R_drew)); exact Kd.R_mono (Kd.R_far (p := ⟨gb299, 0, none⟩) (Kd.R_types HO308.out BK299.out (by decide)) (fun _ hk => hk.2) (.slice Ao289 y306.length co289)) (fun _ hk => trivial), t6_⟩
                  · replace c282 := Bool.eq_false_iff.mpr c282
                    subst c282
                    have H1 : (some (([] : List (S71)), false)) = some (r1, r2) := by rw [if_neg (show ¬ (false = true) by decide)] at H; exact H
                    clear H
                    have H := H1
                    clear H1
                    simp only [Option.some.injEq, Prod.mk.injEq] at H
                    obtain ⟨rfl, rfl⟩ := H
                    go_wp2_with (first | ((with_reducible refine gate_dst (N := 31) rfl ?_); refine Kd.R_lit k71 _ 71 ?hg (N := 31) ?hd (xs := ([] : List (S71))) (inner := []) (ok := fun _ => True) (okp := fun _ => True) ?hr ?hp (fun _ hk => hk) trivial (Below.refl _ _) (Nat.le_refl _) (by simp) ?_; (case hd => rfl); (case hg => rfl); (case hr => first | (go_simp; done) | (go_simp; rfl)); (case hp => exact (Reps.none _ _)); intro v304 w300 ho301 hb hg_ hnew_; clear hg_ hnew_; (first | rw [← Ny303.out] at ho301 | (simp only [Int.reduceToNat] at ho301; rw [← Ny303.out] at ho301)); have HO305 := Aside0.mk (Kd.R_lower ho301 (below_size t2_)); replace BK297 := bkN BK297 hb; replace BK298 := bkN BK298 hb; replace BK299 := bkN BK299 hb; replace HB := Aside0.mk (below_step t2_ hb); clear hb ho301; have hnb302 := NB297_298.out; have hnc302 := NB298_297.out; have hnb303 := NB297_299.out; have hnc303 := NB299_297.out; have hcz304_0 := bc0 BK297; have hfz304_0 := bf BK297 0) | ((with_reducible refine gate_builtin (b := .append) (xs := #[.tmp 31, .tmp 33]) rfl ?_); at_builtin; refine Kd.R_append_rows k71 (w0 := w) w.heap.size rfl (.tmp 31) (.tmp 33) 28 71 (.agg #[(.string ⟨#[]⟩), (.string ⟨#[]⟩)]) 32 rfl Try.underlying28 info71 rfl (by decide) (by omega) v304 y303 l0_0 _ _ _ (fun _ => True) (fun _ => False) rfl rfl ?aO ?aR (fun _ _ h => h) (fun _ h => h.elim) ?aF ?aB ?aS ?aL ?_; (case aR => exact cB HR0_0 HB); (case aB => exact t2_); (case aF => exact (fun _ _ => trivial)); (case aO => exact t46_); (case aS => exact (below_size t2_)); (case aL => have := LMc45.out; omega); intro v307 w305 ho hb hg hat; rw [← Ny306.out] at ho; have n0_ := Aside0.mk (blk_grown (g := gb297) (o := .cells #[.slice A0_0 l0_0.length c0_0] 30 (0, 0)) t37_ hg (Kd.R_ne HO305.out BK297.out (by decide))); have n1_ := Aside0.mk (blk_grown (g := gb298) (o := .cells #[.int .i64 a1_0, .string a1_1, .string a1_2, .string a1_3] 65 (0, 0)) t38_ hg (Kd.R_ne HO305.out BK298.out (by decide))); have n2_ := Aside0.mk (blk_grown (g := gb299) (o := .cells #[.slice none 0 0] 30 (0, 0)) t39_ hg (Kd.R_ne HO305.out BK299.out (by decide))); have n3_ := Aside0.mk (hb); have n4_ := Aside0.mk (ho); clear BK297; clear BK298; clear BK299; clear HB; clear HO305; have BK297 := n0_; have BK298 := n1_; have BK299 := n2_; have HB := n3_; have HO308 := n4_; clear n0_ n1_ n2_ n3_ n4_; clear ho hb hg hat; obtain ⟨Ao306, co306, eo306⟩ := Kd.R_slice HO308.out; subst eo306) | ((with_reducible refine gate_dst (N := 7) rfl ?_); refine boxE (N := 7) (cs := #[.slice none 0 0]) (t := 30) (h := ?_); intro gb309 hg w307 hbox hb; replace HO308 := Aside0.mk (Kd.R_below t20_ hb); have BK309 := Aside0.mk (hbox); have GW309 := Aside0.mk ((t14_ : w.heap.size ≤ gb309)); have GE309 := Aside0.mk ((t14_ : w.heap.size ≤ gb309)); replace HB := Aside0.mk (below_step t2_ hb); have NB297_309 := nbL BK297 hg; have NB309_297 := nbG BK297 hg; replace BK297 := bkN BK297 hb; have NB298_309 := nbL BK298 hg; have NB309_298 := nbG BK298 hg; replace BK298 := bkN BK298 hb; have NB299_309 := nbL BK299 hg; have NB309_299 := nbG BK299 hg; replace BK299 := bkN BK299 hb; clear hb hbox hg; have hnb308 := NB309_297.out; have hnc308 := NB297_309.out; have hnb309 := NB309_298.out; have hnc309 := NB298_309.out; have hnb310 := NB309_299.out; have hnc310 := NB299_309.out; have hcz311_0 := bc0 BK309; have hfz311_0 := bf BK309 0; have hnb312 := NB298_299.out; have hnc312 := NB299_298.out; have hcz313_0 := bc0 BK298; have hcz313_1 := bc1 BK298; have hcz313_2 := bc2 BK298; have hcz313_3 := bc3 BK298; have hfz313_0 := bf BK298 0; have hfz313_1 := bf BK298 1; have hfz313_2 := bf BK298 2; have hfz313_3 := bf BK298 3) | ((with_reducible refine gate_callee (f := 56) rfl ?_); refine goesL_ (some 89) rfl rfl Try.func56 (by kernel_rfl) rfl #[.agg #[.slice Ao306 y306.length co306]] rfl t1_ ?_; (with_reducible refine (spec_DiskOk.calls kj3 _ _ y306 false _ ?side1 ?side2 A281.out).mono ?_); (case side1 => refine (Kd.R_reads' (e := 71) (base := w.heap.size) (ok := fun k_ => True) (n := y306.length) (c := co306) ?_).2.2; exact (by (with_reducible repeat (first | apply Kd.R_alloc | apply Kd.R_drewN | apply Kd.R_drew)); exact (Kd.R_mono (Kd.R_far (p := ⟨gb309, 0, none⟩) (Kd.R_types HO308.out BK309.out (by decide)) (fun _ hk => hk.2) (.slice Ao306 y306.length co306)) (fun _ h_ => h_.1)))); (case side2 => exact (Kd.R_reads' HO308.out).2.1); rintro e w314 ⟨rfl, hb⟩; refine ⟨_, rfl, ?_⟩; replace HO308 := Aside0.mk (Kd.R_below (by (with_reducible repeat (first | apply Kd.R_alloc | apply Kd.R_drewN | apply Kd.R_drew)); exact (Kd.R_mono (Kd.R_far (p := ⟨gb309, 0, none⟩) (Kd.R_types HO308.out BK309.out (by decide)) (fun _ hk => hk.2) (.slice Ao306 y306.length co306)) (fun _ h_ => h_.1))) hb); replace BK297 := bkF BK297 NB297_309 hb; replace BK298 := bkF BK298 NB298_309 hb; replace BK299 := bkF BK299 NB299_309 hb; replace BK309 := Aside0.mk (blk_below (g := gb309) (o := .cells #[.slice Ao306 y306.length co306] 30 (0, 0)) (by (with_reducible repeat (first | refine blk_drewN ?_ _ | refine blk_drew ?_ | refine blk_alloc ?_ _)); refine blk_put (cs := #[.slice none 0 0]) ?_ 0 _ rfl; (with_reducible repeat (first | refine blk_drewN ?_ _ | refine blk_drew ?_ | refine blk_alloc ?_ _)); exact BK309.out) hb); replace HB := Aside0.mk (below_step t6_ hb); (try clear hb); (try clear hb2); (try clear hk); (try clear hi); have hcz315_0 := bc0 BK299; have hfz315_0 := bf BK299 0))
                    refine bodyPost_ret (results_ct rfl _ _ gb299 30 #[.slice none 0 0] (0, 0) _ rfl (by (with_reducible repeat (first | refine blk_drewN ?_ _ | refine blk_drew ?_ | refine blk_alloc ?_ _)); refine blk_put (cs := #[.slice none 0 0]) ?_ 0 _ rfl; (with_reducible repeat (first | refine blk_drewN ?_ _ | refine blk_drew ?_ | refine blk_alloc ?_ _)); exact BK299.out) Try.underlying30 rfl (by kernel_rfl)) rfl ?_
                    exact ⟨_, by first | rfl | (simp [errW_none, errW_some] <;> rfl) | (simp [*, errW_none, errW_some] <;> rfl), by first | exact Kd.R_nil _ _ _ _ _ | exact Kd.N_nil _ _ _ _ _ | exact Kd.V_nil _ _ _ _ _ | exact Kd.Q_nil _ _ _ _ _ | exact Kd.S_nil _ _ _ _ _, t6_⟩
        · rw [if_neg c45] at H
          exact absurd H (by simp)

end Go.Proofs.Ytpjhbhjmaggheaa.QFnExactPutRaws
