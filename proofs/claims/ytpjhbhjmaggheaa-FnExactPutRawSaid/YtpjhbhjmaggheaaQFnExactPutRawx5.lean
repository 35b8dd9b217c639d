-- By a program of this session, over the kit's print.
import Derived.Test.YtpjhbhjmaggheaaQFnExactPutRawx0
import Derived.Test.YtpjhbhjmaggheaaQFnExactPutRawx2
import Derived.Test.YtpjhbhjmaggheaaQFnExactPutRawx3
import Derived.Test.YtpjhbhjmaggheaaQFnExactPutRawx4
namespace Go.Proofs.Ytpjhbhjmaggheaa.QFnExactPutRaw
open Go.RowKit Go.Proofs.YtpjhbhjmaggheaaW.PrintWords Go.Proofs.YtpjhbhjmaggheaaW.PrintLast Go.Proofs.YtpjhbhjmaggheaaW.PrintMore
attribute [local go_sem] max2_int min2_int max_two min_two max_three min_three max_four min_four   -- for this text's walks alone
set_option linter.unusedVariables false
set_option linter.unusedSimpArgs false

/-! ### spec_PutRaw: function 36 -/
def spec_PutRaw.j0 : Nat → Int → Bool → List (S71) → Int → ByteArray → ByteArray → ByteArray → Option ((List (S71)) × Bool)
  | 0, _, _, _, _, _, _, _ => none
  | k + 1, x6, x29, x184000, x185000, x185001, x185002, x185003 => if x29 = true then (some (([] : List (S71)), false)) else ((some (([] : List (S71)) : List (S71))).bind fun y189 => (if y189.length + x184000.length < 4398046511104 then ((some (y189 ++ x184000 : List (S71))).bind fun y192 => (if x185000 = 1 then ((spec_l03Put.f k x184000 x185001 x185003).bind fun t196 => ((spec_DiskOk.f k t196).bind fun t199 => (if t199 = true then (some (t196, true)) else (some (([] : List (S71)), false))))) else (if x185000 = 2 then ((spec_l03Text.f k x184000 x185001).bind fun t200 => (if t200.size + x185003.size ≤ 9223372036854775807 then ((spec_l03Put.f k x184000 x185001 (t200 ++ x185003)).bind fun t201 => ((spec_DiskOk.f k t201).bind fun t204 => (if t204 = true then (some (t201, true)) else (some (([] : List (S71)), false))))) else (none))) else (if x185000 = 3 then (if x185002.toList = x185001.toList then ((spec_DiskOk.f k y192).bind fun t205 => (if t205 = true then (some (y192, true)) else (some (([] : List (S71)), false)))) else ((spec_l03Drop.f k x184000 x185001).bind fun t206 => (if 0 ≤ x6 then (if x6 < (x184000.length : Int) then ((spec_l03Put.f k t206 x185002 ((rd_T71 x184000 x6).f1)).bind fun t210 => ((spec_DiskOk.f k t210).bind fun t213 => (if t213 = true then (some (t210, true)) else (some (([] : List (S71)), false))))) else (none)) else (none)))) else (if x185000 = 4 then ((spec_l03Drop.f k x184000 x185001).bind fun t214 => ((spec_DiskOk.f k t214).bind fun t217 => (if t217 = true then (some (t214, true)) else (some (([] : List (S71)), false))))) else ((spec_DiskOk.f k y192).bind fun t218 => (if t218 = true then (some (y192, true)) else (some (([] : List (S71)), false))))))))) else (none)))
def spec_PutRaw.f (k : Nat) (l0_0 : List (S71)) (a1_0 : Int) (a1_1 : ByteArray) (a1_2 : ByteArray) (a1_3 : ByteArray) : Option ((List (S71)) × Bool) := (spec_l03At.f k l0_0 a1_1).bind fun t186 => ((spec_DiskOk.f k l0_0).bind fun t187 => (if t187 = true then ((spec_l01In.f a1_0 1 4).bind fun t188 => (if t188 = true then (if t186 < 0 then (spec_PutRaw.j0 k t186 (decide (a1_0 ≥ 3)) l0_0 a1_0 a1_1 a1_2 a1_3) else (spec_PutRaw.j0 k t186 false l0_0 a1_0 a1_1 a1_2 a1_3)) else (spec_PutRaw.j0 k t186 true l0_0 a1_0 a1_1 a1_2 a1_3))) else (spec_PutRaw.j0 k t186 true l0_0 a1_0 a1_1 a1_2 a1_3)))
theorem spec_PutRaw.mono_l : ∀ k, (∀ y0 y1 y2 y3 y4 y5 y6, LeO (spec_PutRaw.j0 k y0 y1 y2 y3 y4 y5 y6) (spec_PutRaw.j0 (k + 1) y0 y1 y2 y3 y4 y5 y6))
  | 0 => fun _ _ _ _ _ _ _ r h => by simp [spec_PutRaw.j0] at h
  | k + 1 => by
    have ih0 := spec_PutRaw.mono_l k
    · intro y0 y1 y2 y3 y4 y5 y6
      unfold spec_PutRaw.j0
      repeat' first
      | (with_reducible exact ih0 _ _ _ _ _ _ _)
      | (with_reducible exact spec_DiskOk.mono _ _)
      | (with_reducible exact spec_l03At.mono _ _ _)
      | (with_reducible exact spec_l03Drop.mono _ _ _)
      | (with_reducible exact spec_l03Put.mono _ _ _ _)
      | (with_reducible exact spec_l03Text.mono _ _ _)
      | (with_reducible exact LeO.refl _)
      | (with_reducible exact LeO.none _)
      | (with_reducible refine LeO.ite ?_ ?_)
      | (with_reducible refine LeO.bind ?_ (fun _ => ?_))
      | exact ih0 _ _ _ _ _ _ _
      | exact spec_DiskOk.mono _ _
      | exact spec_l03At.mono _ _ _
      | exact spec_l03Drop.mono _ _ _
      | exact spec_l03Put.mono _ _ _ _
      | exact spec_l03Text.mono _ _ _
      | exact LeO.none _
      | refine LeO.ite ?_ ?_
      | refine LeO.bind ?_ (fun _ => ?_)
theorem spec_PutRaw.mono : ∀ a0 a1 a2 a3 a4 k, LeO (spec_PutRaw.f k a0 a1 a2 a3 a4) (spec_PutRaw.f (k + 1) a0 a1 a2 a3 a4) := by
  intro a0 a1 a2 a3 a4 k
  have ih0 := spec_PutRaw.mono_l k
  unfold spec_PutRaw.f
  repeat' first
      | (with_reducible exact ih0 _ _ _ _ _ _ _)
      | (with_reducible exact spec_DiskOk.mono _ _)
      | (with_reducible exact spec_l03At.mono _ _ _)
      | (with_reducible exact spec_l03Drop.mono _ _ _)
      | (with_reducible exact spec_l03Put.mono _ _ _ _)
      | (with_reducible exact spec_l03Text.mono _ _ _)
      | (with_reducible exact LeO.refl _)
      | (with_reducible exact LeO.none _)
      | (with_reducible refine LeO.ite ?_ ?_)
      | (with_reducible refine LeO.bind ?_ (fun _ => ?_))
      | exact ih0 _ _ _ _ _ _ _
      | exact spec_DiskOk.mono _ _
      | exact spec_l03At.mono _ _ _
      | exact spec_l03Drop.mono _ _ _
      | exact spec_l03Put.mono _ _ _ _
      | exact spec_l03Text.mono _ _ _
      | exact LeO.none _
      | refine LeO.ite ?_ ?_
      | refine LeO.bind ?_ (fun _ => ?_)
def spec_PutRaw.T9 : Bool × List (List Nat × List Nat) := (true, [([], []), ([], []), ([1], [1]), ([], []), ([], []), ([4], [4]), ([3, 5], [3, 5]), ([], []), ([7], [7]), ([6, 8], [6, 8]), ([2, 9], [2, 9]), ([0, 10, 6], [0, 10]), ([11, 11, 0, 1, 2, 3, 4, 5, 6, 7, 8, 9, 10, 11], [11])])
def spec_PutRaw.B9 : List Nat := [0, 0, 2, 0, 0, 16, 56, 0, 128, 504, 1022, 2047, 4095]
theorem spec_PutRaw.tab9 : rtab .any (opsOf Try.f36 9) = spec_PutRaw.T9 := by kernel_rfl
theorem spec_PutRaw.bits9 : waitsOk spec_PutRaw.T9.2 spec_PutRaw.B9 = true := by kernel_rfl
def spec_PutRaw.T12 : Bool × List (List Nat × List Nat) := (true, [([], []), ([], []), ([1], [1]), ([0, 2], [0, 2]), ([], []), ([4], [4]), ([], []), ([6], [6]), ([], []), ([7, 8], [7, 8]), ([9], [9]), ([10], [10]), ([5, 11], [5, 11]), ([3, 12, 3], [3, 12]), ([13, 13, 0, 1, 2, 3, 4, 5, 6, 7, 8, 9, 10, 11, 12, 13], [13])])
def spec_PutRaw.B12 : List Nat := [0, 0, 2, 7, 0, 16, 0, 64, 0, 448, 960, 1984, 4080, 8191, 16383]
theorem spec_PutRaw.tab12 : rtab .any (opsOf Try.f36 12) = spec_PutRaw.T12 := by kernel_rfl
theorem spec_PutRaw.bits12 : waitsOk spec_PutRaw.T12.2 spec_PutRaw.B12 = true := by kernel_rfl
set_option maxHeartbeats 8000000 in
set_option maxRecDepth 100000 in
theorem spec_PutRaw.calls (k : Nat) (A0_0 : Option Addr) (c0_0 : Nat) (l0_0 : List (S71)) (a1_0 : Int) (a1_1 : ByteArray) (a1_2 : ByteArray) (a1_3 : ByteArray) (r1 : List (S71)) (r2 : Bool) (w : World) (hr0_0 : Kd.C k71 w A0_0 l0_0.length l0_0) (hc0_0 : l0_0.length ≤ c0_0) (h : spec_PutRaw.f k l0_0 a1_0 a1_1 a1_2 a1_3 = some (r1, r2)) :
    Calls Try.prog 36 #[.agg #[.slice A0_0 l0_0.length c0_0], .agg #[.int .i64 a1_0, .string a1_1, .string a1_2, .string a1_3]] w fun e w' => ∃ v0_ : Value, e = .returned (.tuple #[.agg #[v0_], .bool r2]) ∧ Kd.R k71 71 w' w.heap.size (fun _ => True) v0_ r1 ∧ Below w.heap.size w w' := by
  have hu30 := Try.underlying30
  have hu65 := Try.underlying65
  have hu71 := Try.underlying71
  have HR0_0 := Aside0.mk hr0_0
  have HC0_0 := Aside0.mk hc0_0
  clear hr0_0 hc0_0
  have HB := Aside0.mk (Below.refl w.heap.size w)
  have H : ((spec_l03At.f k l0_0 a1_1).bind fun t186 => ((spec_DiskOk.f k l0_0).bind fun t187 => (if t187 = true then ((spec_l01In.f a1_0 1 4).bind fun t188 => (if t188 = true then (if t186 < 0 then (spec_PutRaw.j0 k t186 (decide (a1_0 ≥ 3)) l0_0 a1_0 a1_1 a1_2 a1_3) else (spec_PutRaw.j0 k t186 false l0_0 a1_0 a1_1 a1_2 a1_3)) else (spec_PutRaw.j0 k t186 true l0_0 a1_0 a1_1 a1_2 a1_3))) else (spec_PutRaw.j0 k t186 true l0_0 a1_0 a1_1 a1_2 a1_3)))) = some (r1, r2) := h
  clear h
  replace H := Option.bind_eq_some_iff.mp H
  obtain ⟨t186, A30, H⟩ := H
  replace H : ((spec_DiskOk.f k l0_0).bind fun t187 => (if t187 = true then ((spec_l01In.f a1_0 1 4).bind fun t188 => (if t188 = true then (if t186 < 0 then (spec_PutRaw.j0 k t186 (decide (a1_0 ≥ 3)) l0_0 a1_0 a1_1 a1_2 a1_3) else (spec_PutRaw.j0 k t186 false l0_0 a1_0 a1_1 a1_2 a1_3)) else (spec_PutRaw.j0 k t186 true l0_0 a1_0 a1_1 a1_2 a1_3))) else (spec_PutRaw.j0 k t186 true l0_0 a1_0 a1_1 a1_2 a1_3))) = some (r1, r2) := H
  have A3 := Aside0.mk A30
  clear A30
  have HC4 := Aside0.mk H
  clear H
  go_enter Try.func36, Try.ntmps36
  go_upto_region 2 with (first | ((with_reducible refine gate_dst (N := 2) rfl ?_); refine boxE (N := 2) (cs := #[.slice A0_0 l0_0.length c0_0]) (t := 30) (h := ?_); intro gb183 hg w5 hbox hb; have BK183 := Aside0.mk (hbox); have GW183 := Aside0.mk ((t4_ : w.heap.size ≤ gb183)); have GE183 := Aside0.mk ((t4_ : w.heap.size ≤ gb183)); replace HB := Aside0.mk (below_step t0_ hb); clear hb hbox hg) | ((with_reducible refine gate_dst (N := 3) rfl ?_); refine boxE (N := 3) (cs := #[.int .i64 a1_0, .string a1_1, .string a1_2, .string a1_3]) (t := 65) (h := ?_); intro gb184 hg w6 hbox hb; have BK184 := Aside0.mk (hbox); have GW184 := Aside0.mk ((by rw [hg]; exact (below_size (by repeat (first | (with_reducible first | exact HB.out | apply below_alloc | apply pw_below_drewN | apply below_drew1 | refine below_set ?_ GE183.out) | exact HB.out))) : w.heap.size ≤ gb184)); have GE184 := Aside0.mk ((by rw [hg]; exact (below_size (by repeat (first | (with_reducible first | exact HB.out | apply below_alloc | apply pw_below_drewN | apply below_drew1 | refine below_set ?_ GE183.out) | exact HB.out))) : w.heap.size ≤ gb184)); replace HB := Aside0.mk (below_step (by repeat (first | (with_reducible first | exact HB.out | apply below_alloc | apply pw_below_drewN | apply below_drew1 | refine below_set ?_ GE183.out) | exact HB.out)) hb); have NB183_184 := nbL BK183 hg; have NB184_183 := nbG BK183 hg; replace BK183 := bkN BK183 hb; clear hb hbox hg) | ((with_reducible refine gate_dst (N := 4) rfl ?_); refine boxE (N := 4) (cs := #[.slice none 0 0]) (t := 30) (h := ?_); intro gb185 hg w7 hbox hb; have BK185 := Aside0.mk (hbox); have GW185 := Aside0.mk ((by rw [hg]; exact (below_size (by repeat (first | (with_reducible first | exact HB.out | apply below_alloc | apply pw_below_drewN | apply below_drew1 | refine below_set ?_ GE183.out | refine below_set ?_ GE184.out) | exact HB.out))) : w.heap.size ≤ gb185)); have GE185 := Aside0.mk ((by rw [hg]; exact (below_size (by repeat (first | (with_reducible first | exact HB.out | apply below_alloc | apply pw_below_drewN | apply below_drew1 | refine below_set ?_ GE183.out | refine below_set ?_ GE184.out) | exact HB.out))) : w.heap.size ≤ gb185)); replace HB := Aside0.mk (below_step (by repeat (first | (with_reducible first | exact HB.out | apply below_alloc | apply pw_below_drewN | apply below_drew1 | refine below_set ?_ GE183.out | refine below_set ?_ GE184.out) | exact HB.out)) hb); have NB183_185 := nbL BK183 hg; have NB185_183 := nbG BK183 hg; replace BK183 := bkN BK183 hb; have NB184_185 := nbL BK184 hg; have NB185_184 := nbG BK184 hg; replace BK184 := bkN BK184 hb; clear hb hbox hg; have hnb8 := NB183_184.out; have hnc8 := NB184_183.out; have hnb9 := NB183_185.out; have hnc9 := NB185_183.out; have hcz10_0 := bc0 BK183; have hfz10_0 := bf BK183 0; have hnb11 := NB184_185.out; have hnc11 := NB185_184.out; have hcz12_0 := bc0 BK184; have hcz12_1 := bc1 BK184; have hcz12_2 := bc2 BK184; have hcz12_3 := bc3 BK184; have hfz12_0 := bf BK184 0; have hfz12_1 := bf BK184 1; have hfz12_2 := bf BK184 2; have hfz12_3 := bf BK184 3) | ((with_reducible refine gate_callee (f := 86) rfl ?_); refine goesL_ (some 11) rfl rfl Try.func86 (by kernel_rfl) rfl #[.agg #[.slice A0_0 l0_0.length c0_0], .string a1_1] rfl t2_ ?_; (with_reducible refine (spec_l03At.calls k _ _ l0_0 a1_1 t186 _ ?side1 ?side2 A3.out).mono ?_); (case side1 => exact cB HR0_0 HB); (case side2 => exact HC0_0.out); rintro e w13 ⟨rfl, hb⟩; refine ⟨_, rfl, ?_⟩; replace BK183 := bkN BK183 hb; replace BK184 := bkN BK184 hb; replace BK185 := bkN BK185 hb; replace HB := Aside0.mk (below_step t1_ hb); (try clear hb); (try clear hb2); (try clear hk); (try clear hi)))
  (try simp only [Act.put, List.setIfInBounds_toArray, List.set_cons_zero, List.set_cons_succ])
  go_cut [29] (fun v29 wc => ∃ (kq : Nat) (x29_3 : Bool), v29 = .bool x29_3 ∧ Aside0 (spec_PutRaw.j0 kq t186 x29_3 l0_0 a1_0 a1_1 a1_2 a1_3 = some (r1, r2)) ∧ Aside0 (kq ≤ k) ∧ Aside0 (wc.heap[gb183]? = some (.cells #[(.slice A0_0 l0_0.length c0_0)] 30 (0, 0))) ∧ Aside0 (wc.heap[gb184]? = some (.cells #[.int .i64 a1_0, .string a1_1, .string a1_2, .string a1_3] 65 (0, 0))) ∧ Aside0 (wc.heap[gb185]? = some (.cells #[(.slice none 0 0)] 30 (0, 0))) ∧ Aside0 (Below w.heap.size w wc))
  case first =>
    have H := HC4.out
    clear HC4
    replace H := Option.bind_eq_some_iff.mp H
    obtain ⟨t187, A140, H⟩ := H
    replace H : (if t187 = true then ((spec_l01In.f a1_0 1 4).bind fun t188 => (if t188 = true then (if t186 < 0 then (spec_PutRaw.j0 k t186 (decide (a1_0 ≥ 3)) l0_0 a1_0 a1_1 a1_2 a1_3) else (spec_PutRaw.j0 k t186 false l0_0 a1_0 a1_1 a1_2 a1_3)) else (spec_PutRaw.j0 k t186 true l0_0 a1_0 a1_1 a1_2 a1_3))) else (spec_PutRaw.j0 k t186 true l0_0 a1_0 a1_1 a1_2 a1_3)) = some (r1, r2) := H
    have A14 := Aside0.mk A140
    clear A140
    by_cases c15 : t187 = true
    · subst c15
      have H1 : ((spec_l01In.f a1_0 1 4).bind fun t188 => (if t188 = true then (if t186 < 0 then (spec_PutRaw.j0 k t186 (decide (a1_0 ≥ 3)) l0_0 a1_0 a1_1 a1_2 a1_3) else (spec_PutRaw.j0 k t186 false l0_0 a1_0 a1_1 a1_2 a1_3)) else (spec_PutRaw.j0 k t186 true l0_0 a1_0 a1_1 a1_2 a1_3))) = some (r1, r2) := by rw [if_pos rfl] at H; exact H
      clear H
      have H := H1
      clear H1
      replace H := Option.bind_eq_some_iff.mp H
      obtain ⟨t188, A160, H⟩ := H
      replace H : (if t188 = true then (if t186 < 0 then (spec_PutRaw.j0 k t186 (decide (a1_0 ≥ 3)) l0_0 a1_0 a1_1 a1_2 a1_3) else (spec_PutRaw.j0 k t186 false l0_0 a1_0 a1_1 a1_2 a1_3)) else (spec_PutRaw.j0 k t186 true l0_0 a1_0 a1_1 a1_2 a1_3)) = some (r1, r2) := H
      have A16 := Aside0.mk A160
      clear A160
      by_cases c17 : t188 = true
      · subst c17
        have H1 : (if t186 < 0 then (spec_PutRaw.j0 k t186 (decide (a1_0 ≥ 3)) l0_0 a1_0 a1_1 a1_2 a1_3) else (spec_PutRaw.j0 k t186 false l0_0 a1_0 a1_1 a1_2 a1_3)) = some (r1, r2) := by rw [if_pos rfl] at H; exact H
        clear H
        have H := H1
        clear H1
        by_cases c18 : t186 < 0
        · rw [if_pos c18] at H
          have c18b0 : decide (t186 < 0) = true := decide_eq_true c18
          clear c18
          (first | rw [c18b0] | (simp only [i64_w, i32_w]; rw [c18b0]) | skip)
          have H' := Aside0.mk H
          clear H
          have hnb19 := NB183_184.out
          have hnc19 := NB184_183.out
          have hnb20 := NB183_185.out
          have hnc20 := NB185_183.out
          have hcz21_0 := bc0 BK183
          have hfz21_0 := bf BK183 0
          go_wp2_with (first | ((with_reducible refine gate_callee (f := 56) rfl ?_); refine goesL_ (some 13) rfl rfl Try.func56 (by kernel_rfl) rfl #[.agg #[.slice A0_0 l0_0.length c0_0]] rfl t2_ ?_; (with_reducible refine (spec_DiskOk.calls k _ _ l0_0 true _ ?side1 ?side2 A14.out).mono ?_); (case side1 => exact cB HR0_0 HB); (case side2 => exact HC0_0.out); rintro e w22 ⟨rfl, hb⟩; refine ⟨_, rfl, ?_⟩; replace BK183 := bkN BK183 hb; replace BK184 := bkN BK184 hb; replace BK185 := bkN BK185 hb; replace HB := Aside0.mk (below_step t1_ hb); (try clear hb); (try clear hb2); (try clear hk); (try clear hi); have hnb23 := NB184_185.out; have hnc23 := NB185_184.out; have hcz24_0 := bc0 BK184; have hcz24_1 := bc1 BK184; have hcz24_2 := bc2 BK184; have hcz24_3 := bc3 BK184; have hfz24_0 := bf BK184 0; have hfz24_1 := bf BK184 1; have hfz24_2 := bf BK184 2; have hfz24_3 := bf BK184 3) | (go_at_call 57; (with_reducible refine (spec_l01In.calls a1_0 1 4 true _ A16.out).mono ?_); rintro e w' ⟨rfl, ⟨nd, rfl⟩⟩))
          go_meet
          case rel => exact ⟨_, (decide (a1_0 ≥ 3)), t28_, H', ⟨by first | omega | exact Nat.le_refl _⟩, ⟨by (with_reducible repeat (first | refine blk_drewN ?_ _ | refine blk_drew ?_ | refine blk_alloc ?_ _)); exact BK183.out⟩, ⟨by (with_reducible repeat (first | refine blk_drewN ?_ _ | refine blk_drew ?_ | refine blk_alloc ?_ _)); exact BK184.out⟩, ⟨by (with_reducible repeat (first | refine blk_drewN ?_ _ | refine blk_drew ?_ | refine blk_alloc ?_ _)); exact BK185.out⟩, ⟨t1_⟩⟩
        · rw [if_neg c18] at H
          have c18b0 : decide (t186 < 0) = false := decide_eq_false c18
          clear c18
          (first | rw [c18b0] | (simp only [i64_w, i32_w]; rw [c18b0]) | skip)
          have H' := Aside0.mk H
          clear H
          have hnb25 := NB183_184.out
          have hnc25 := NB184_183.out
          have hnb26 := NB183_185.out
          have hnc26 := NB185_183.out
          have hcz27_0 := bc0 BK183
          have hfz27_0 := bf BK183 0
          go_wp2_with (first | ((with_reducible refine gate_callee (f := 56) rfl ?_); refine goesL_ (some 13) rfl rfl Try.func56 (by kernel_rfl) rfl #[.agg #[.slice A0_0 l0_0.length c0_0]] rfl t2_ ?_; (with_reducible refine (spec_DiskOk.calls k _ _ l0_0 true _ ?side1 ?side2 A14.out).mono ?_); (case side1 => exact cB HR0_0 HB); (case side2 => exact HC0_0.out); rintro e w28 ⟨rfl, hb⟩; refine ⟨_, rfl, ?_⟩; replace BK183 := bkN BK183 hb; replace BK184 := bkN BK184 hb; replace BK185 := bkN BK185 hb; replace HB := Aside0.mk (below_step t1_ hb); (try clear hb); (try clear hb2); (try clear hk); (try clear hi); have hnb29 := NB184_185.out; have hnc29 := NB185_184.out; have hcz30_0 := bc0 BK184; have hcz30_1 := bc1 BK184; have hcz30_2 := bc2 BK184; have hcz30_3 := bc3 BK184; have hfz30_0 := bf BK184 0; have hfz30_1 := bf BK184 1; have hfz30_2 := bf BK184 2; have hfz30_3 := bf BK184 3) | (go_at_call 57; (with_reducible refine (spec_l01In.calls a1_0 1 4 true _ A16.out).mono ?_); rintro e w' ⟨rfl, ⟨nd, rfl⟩⟩))
          go_meet
          case rel => exact ⟨_, (false), t28_, H', ⟨by first | omega | exact Nat.le_refl _⟩, ⟨by (with_reducible repeat (first | refine blk_drewN ?_ _ | refine blk_drew ?_ | refine blk_alloc ?_ _)); exact BK183.out⟩, ⟨by (with_reducible repeat (first | refine blk_drewN ?_ _ | refine blk_drew ?_ | refine blk_alloc ?_ _)); exact BK184.out⟩, ⟨by (with_reducible repeat (first | refine blk_drewN ?_ _ | refine blk_drew ?_ | refine blk_alloc ?_ _)); exact BK185.out⟩, ⟨t1_⟩⟩
      · replace c17 := Bool.eq_false_iff.mpr c17
        subst c17
        have H1 : (spec_PutRaw.j0 k t186 true l0_0 a1_0 a1_1 a1_2 a1_3) = some (r1, r2) := by rw [if_neg (show ¬ (false = true) by decide)] at H; exact H
        clear H
        have H := H1
        clear H1
        have H' := Aside0.mk H
        clear H
        have hnb31 := NB183_184.out
        have hnc31 := NB184_183.out
        have hnb32 := NB183_185.out
        have hnc32 := NB185_183.out
        have hcz33_0 := bc0 BK183
        have hfz33_0 := bf BK183 0
        go_wp2_with (first | ((with_reducible refine gate_callee (f := 56) rfl ?_); refine goesL_ (some 13) rfl rfl Try.func56 (by kernel_rfl) rfl #[.agg #[.slice A0_0 l0_0.length c0_0]] rfl t2_ ?_; (with_reducible refine (spec_DiskOk.calls k _ _ l0_0 true _ ?side1 ?side2 A14.out).mono ?_); (case side1 => exact cB HR0_0 HB); (case side2 => exact HC0_0.out); rintro e w34 ⟨rfl, hb⟩; refine ⟨_, rfl, ?_⟩; replace BK183 := bkN BK183 hb; replace BK184 := bkN BK184 hb; replace BK185 := bkN BK185 hb; replace HB := Aside0.mk (below_step t1_ hb); (try clear hb); (try clear hb2); (try clear hk); (try clear hi); have hnb35 := NB184_185.out; have hnc35 := NB185_184.out; have hcz36_0 := bc0 BK184; have hcz36_1 := bc1 BK184; have hcz36_2 := bc2 BK184; have hcz36_3 := bc3 BK184; have hfz36_0 := bf BK184 0; have hfz36_1 := bf BK184 1; have hfz36_2 := bf BK184 2; have hfz36_3 := bf BK184 3) | (go_at_call 57; (with_reducible refine (spec_l01In.calls a1_0 1 4 false _ A16.out).mono ?_); rintro e w' ⟨rfl, ⟨nd, rfl⟩⟩))
        go_meet
        case rel => exact ⟨_, (true), t28_, H', ⟨by first | omega | exact Nat.le_refl _⟩, ⟨by (with_reducible repeat (first | refine blk_drewN ?_ _ | refine blk_drew ?_ | refine blk_alloc ?_ _)); exact BK183.out⟩, ⟨by (with_reducible repeat (first | refine blk_drewN ?_ _ | refine blk_drew ?_ | refine blk_alloc ?_ _)); exact BK184.out⟩, ⟨by (with_reducible repeat (first | refine blk_drewN ?_ _ | refine blk_drew ?_ | refine blk_alloc ?_ _)); exact BK185.out⟩, ⟨t1_⟩⟩
    · replace c15 := Bool.eq_false_iff.mpr c15
      subst c15
      have H1 : (spec_PutRaw.j0 k t186 true l0_0 a1_0 a1_1 a1_2 a1_3) = some (r1, r2) := by rw [if_neg (show ¬ (false = true) by decide)] at H; exact H
      clear H
      have H := H1
      clear H1
      have H' := Aside0.mk H
      clear H
      have hnb37 := NB183_184.out
      have hnc37 := NB184_183.out
      have hnb38 := NB183_185.out
      have hnc38 := NB185_183.out
      have hcz39_0 := bc0 BK183
      have hfz39_0 := bf BK183 0
      go_wp2_with (first | ((with_reducible refine gate_callee (f := 56) rfl ?_); refine goesL_ (some 13) rfl rfl Try.func56 (by kernel_rfl) rfl #[.agg #[.slice A0_0 l0_0.length c0_0]] rfl t2_ ?_; (with_reducible refine (spec_DiskOk.calls k _ _ l0_0 false _ ?side1 ?side2 A14.out).mono ?_); (case side1 => exact cB HR0_0 HB); (case side2 => exact HC0_0.out); rintro e w40 ⟨rfl, hb⟩; refine ⟨_, rfl, ?_⟩; replace BK183 := bkN BK183 hb; replace BK184 := bkN BK184 hb; replace BK185 := bkN BK185 hb; replace HB := Aside0.mk (below_step t1_ hb); (try clear hb); (try clear hb2); (try clear hk); (try clear hi)))
      go_meet
      case rel => exact ⟨_, (true), t28_, H', ⟨by first | omega | exact Nat.le_refl _⟩, ⟨by (with_reducible repeat (first | refine blk_drewN ?_ _ | refine blk_drew ?_ | refine blk_alloc ?_ _)); exact BK183.out⟩, ⟨by (with_reducible repeat (first | refine blk_drewN ?_ _ | refine blk_drew ?_ | refine blk_alloc ?_ _)); exact BK184.out⟩, ⟨by (with_reducible repeat (first | refine blk_drewN ?_ _ | refine blk_drew ?_ | refine blk_alloc ?_ _)); exact BK185.out⟩, ⟨t1_⟩⟩
  case rest =>
    clear HC4
    try clear c1
    try clear c2
    try clear p2
    try clear c3
    try clear c5
    try clear c8
    try clear c9
    try clear c11
    try clear c15
    try clear c17
    try clear c18
    try clear c18b0
    try clear c19
    try clear c20
    try clear c23
    try clear c25
    try clear c26
    try clear c29
    try clear c31
    try clear c32
    try clear c35
    try clear c36
    try clear c37
    try clear c38
    try clear hcz10_0
    try clear hcz12_0
    try clear hcz12_1
    try clear hcz12_2
    try clear hcz12_3
    try clear hcz21_0
    try clear hcz24_0
    try clear hcz24_1
    try clear hcz24_2
    try clear hcz24_3
    try clear hcz27_0
    try clear hcz30_0
    try clear hcz30_1
    try clear hcz30_2
    try clear hcz30_3
    try clear hcz33_0
    try clear hcz36_0
    try clear hcz36_1
    try clear hcz36_2
    try clear hcz36_3
    try clear hcz39_0
    try clear hfz10_0
    try clear hfz12_0
    try clear hfz12_1
    try clear hfz12_2
    try clear hfz12_3
    try clear hfz21_0
    try clear hfz24_0
    try clear hfz24_1
    try clear hfz24_2
    try clear hfz24_3
    try clear hfz27_0
    try clear hfz30_0
    try clear hfz30_1
    try clear hfz30_2
    try clear hfz30_3
    try clear hfz33_0
    try clear hfz36_0
    try clear hfz36_1
    try clear hfz36_2
    try clear hfz36_3
    try clear hfz39_0
    obtain ⟨kq, x29_3, rfl, HA, HJ3, BK183, BK184, BK185, HB⟩ := hcut
    cases kq with
    | zero => exact absurd HA.out (by simp [spec_PutRaw.j0])
    | succ kj3 =>
      have H := HA.out
      clear HA
      simp only [spec_PutRaw.j0] at H
      by_cases c41 : x29_3 = true
      · subst c41
        have H1 : (some (([] : List (S71)), false)) = some (r1, r2) := by rw [if_pos rfl] at H; exact H
        clear H
        have H := H1
        clear H1
        simp only [Option.some.injEq, Prod.mk.injEq] at H
        obtain ⟨rfl, rfl⟩ := H
        have hnb42 := NB185_183.out
        have hnc42 := NB183_185.out
        have hnb43 := NB185_184.out
        have hnc43 := NB184_185.out
        have hcz44_0 := bc0 BK185
        have hfz44_0 := bf BK185 0
        go_wp2
        refine bodyPost_ret (results_ct rfl _ _ gb185 30 #[.slice none 0 0] (0, 0) _ rfl (by (with_reducible repeat (first | refine blk_drewN ?_ _ | refine blk_drew ?_ | refine blk_alloc ?_ _)); refine blk_put (cs := #[.slice none 0 0]) ?_ 0 _ rfl; (with_reducible repeat (first | refine blk_drewN ?_ _ | refine blk_drew ?_ | refine blk_alloc ?_ _)); exact BK185.out) Try.underlying30 rfl (by kernel_rfl)) rfl ?_
        exact ⟨_, by first | rfl | (simp [errW_none, errW_some] <;> rfl) | (simp [*, errW_none, errW_some] <;> rfl), by first | exact Kd.R_nil _ _ _ _ _ | exact Kd.N_nil _ _ _ _ _ | exact Kd.V_nil _ _ _ _ _ | exact Kd.Q_nil _ _ _ _ _ | exact Kd.S_nil _ _ _ _ _, t1_⟩
      · replace c41 := Bool.eq_false_iff.mpr c41
        subst c41
        have H1 : ((some (([] : List (S71)) : List (S71))).bind fun y189 => (if y189.length + l0_0.length < 4398046511104 then ((some (y189 ++ l0_0 : List (S71))).bind fun y192 => (if a1_0 = 1 then ((spec_l03Put.f kj3 l0_0 a1_1 a1_3).bind fun t196 => ((spec_DiskOk.f kj3 t196).bind fun t199 => (if t199 = true then (some (t196, true)) else (some (([] : List (S71)), false))))) else (if a1_0 = 2 then ((spec_l03Text.f kj3 l0_0 a1_1).bind fun t200 => (if t200.size + a1_3.size ≤ 9223372036854775807 then ((spec_l03Put.f kj3 l0_0 a1_1 (t200 ++ a1_3)).bind fun t201 => ((spec_DiskOk.f kj3 t201).bind fun t204 => (if t204 = true then (some (t201, true)) else (some (([] : List (S71)), false))))) else (none))) else (if a1_0 = 3 then (if a1_2.toList = a1_1.toList then ((spec_DiskOk.f kj3 y192).bind fun t205 => (if t205 = true then (some (y192, true)) else (some (([] : List (S71)), false)))) else ((spec_l03Drop.f kj3 l0_0 a1_1).bind fun t206 => (if 0 ≤ t186 then (if t186 < (l0_0.length : Int) then ((spec_l03Put.f kj3 t206 a1_2 ((rd_T71 l0_0 t186).f1)).bind fun t210 => ((spec_DiskOk.f kj3 t210).bind fun t213 => (if t213 = true then (some (t210, true)) else (some (([] : List (S71)), false))))) else (none)) else (none)))) else (if a1_0 = 4 then ((spec_l03Drop.f kj3 l0_0 a1_1).bind fun t214 => ((spec_DiskOk.f kj3 t214).bind fun t217 => (if t217 = true then (some (t214, true)) else (some (([] : List (S71)), false))))) else ((spec_DiskOk.f kj3 y192).bind fun t218 => (if t218 = true then (some (y192, true)) else (some (([] : List (S71)), false))))))))) else (none))) = some (r1, r2) := by rw [if_neg (show ¬ (false = true) by decide)] at H; exact H
        clear H
        have H := H1
        clear H1
        obtain ⟨y189, hy189⟩ : ∃ y_ : List (S71), y_ = (([] : List (S71))) := ⟨_, rfl⟩
        replace H : (if y189.length + l0_0.length < 4398046511104 then ((some (y189 ++ l0_0 : List (S71))).bind fun y192 => (if a1_0 = 1 then ((spec_l03Put.f kj3 l0_0 a1_1 a1_3).bind fun t196 => ((spec_DiskOk.f kj3 t196).bind fun t199 => (if t199 = true then (some (t196, true)) else (some (([] : List (S71)), false))))) else (if a1_0 = 2 then ((spec_l03Text.f kj3 l0_0 a1_1).bind fun t200 => (if t200.size + a1_3.size ≤ 9223372036854775807 then ((spec_l03Put.f kj3 l0_0 a1_1 (t200 ++ a1_3)).bind fun t201 => ((spec_DiskOk.f kj3 t201).bind fun t204 => (if t204 = true then (some (t201, true)) else (some (([] : List (S71)), false))))) else (none))) else (if a1_0 = 3 then (if a1_2.toList = a1_1.toList then ((spec_DiskOk.f kj3 y192).bind fun t205 => (if t205 = true then (some (y192, true)) else (some (([] : List (S71)), false)))) else ((spec_l03Drop.f kj3 l0_0 a1_1).bind fun t206 => (if 0 ≤ t186 then (if t186 < (l0_0.length : Int) then ((spec_l03Put.f kj3 t206 a1_2 ((rd_T71 l0_0 t186).f1)).bind fun t210 => ((spec_DiskOk.f kj3 t210).bind fun t213 => (if t213 = true then (some (t210, true)) else (some (([] : List (S71)), false))))) else (none)) else (none)))) else (if a1_0 = 4 then ((spec_l03Drop.f kj3 l0_0 a1_1).bind fun t214 => ((spec_DiskOk.f kj3 t214).bind fun t217 => (if t217 = true then (some (t214, true)) else (some (([] : List (S71)), false))))) else ((spec_DiskOk.f kj3 y192).bind fun t218 => (if t218 = true then (some (y192, true)) else (some (([] : List (S71)), false))))))))) else (none)) = some (r1, r2) := by first | (rw [hy189]; with_reducible exact H) | (have H2_ := (Option.bind_some _ _).symm.trans H; rw [hy189]; with_reducible exact H2_) | (have H2_ := (Option.bind_some _ _).symm.trans H; with_reducible exact H2_) | with_reducible exact H | (rw [hy189]; exact H) | exact H
        have Ny189 := Aside0.mk hy189
        clear hy189
        by_cases c45 : y189.length + l0_0.length < 4398046511104
        · rw [if_pos c45] at H
          have LMc45 := Aside0.mk c45
          clear c45
          obtain ⟨y192, hy192⟩ : ∃ y_ : List (S71), y_ = (y189 ++ l0_0) := ⟨_, rfl⟩
          replace H : (if a1_0 = 1 then ((spec_l03Put.f kj3 l0_0 a1_1 a1_3).bind fun t196 => ((spec_DiskOk.f kj3 t196).bind fun t199 => (if t199 = true then (some (t196, true)) else (some (([] : List (S71)), false))))) else (if a1_0 = 2 then ((spec_l03Text.f kj3 l0_0 a1_1).bind fun t200 => (if t200.size + a1_3.size ≤ 9223372036854775807 then ((spec_l03Put.f kj3 l0_0 a1_1 (t200 ++ a1_3)).bind fun t201 => ((spec_DiskOk.f kj3 t201).bind fun t204 => (if t204 = true then (some (t201, true)) else (some (([] : List (S71)), false))))) else (none))) else (if a1_0 = 3 then (if a1_2.toList = a1_1.toList then ((spec_DiskOk.f kj3 y192).bind fun t205 => (if t205 = true then (some (y192, true)) else (some (([] : List (S71)), false)))) else ((spec_l03Drop.f kj3 l0_0 a1_1).bind fun t206 => (if 0 ≤ t186 then (if t186 < (l0_0.length : Int) then ((spec_l03Put.f kj3 t206 a1_2 ((rd_T71 l0_0 t186).f1)).bind fun t210 => ((spec_DiskOk.f kj3 t210).bind fun t213 => (if t213 = true then (some (t210, true)) else (some (([] : List (S71)), false))))) else (none)) else (none)))) else (if a1_0 = 4 then ((spec_l03Drop.f kj3 l0_0 a1_1).bind fun t214 => ((spec_DiskOk.f kj3 t214).bind fun t217 => (if t217 = true then (some (t214, true)) else (some (([] : List (S71)), false))))) else ((spec_DiskOk.f kj3 y192).bind fun t218 => (if t218 = true then (some (y192, true)) else (some (([] : List (S71)), false)))))))) = some (r1, r2) := by first | (rw [hy192]; with_reducible exact H) | (have H2_ := (Option.bind_some _ _).symm.trans H; rw [hy192]; with_reducible exact H2_) | (have H2_ := (Option.bind_some _ _).symm.trans H; with_reducible exact H2_) | with_reducible exact H | (rw [hy192]; exact H) | exact H
          have Ny192 := Aside0.mk hy192
          clear hy192
          by_cases c46 : a1_0 = 1
          · rw [if_pos c46] at H
            have c46b0 : (a1_0 == 1) = true := beq_iff_eq.mpr c46
            have c46b1 : (a1_0 != 1) = false := bne_eq_false_iff_eq.mpr c46
            clear c46
            replace H := Option.bind_eq_some_iff.mp H
            obtain ⟨t196, A470, H⟩ := H
            replace H : ((spec_DiskOk.f kj3 t196).bind fun t199 => (if t199 = true then (some (t196, true)) else (some (([] : List (S71)), false)))) = some (r1, r2) := H
            have A47 := Aside0.mk A470
            clear A470
            replace H := Option.bind_eq_some_iff.mp H
            obtain ⟨t199, A480, H⟩ := H
            replace H : (if t199 = true then (some (t196, true)) else (some (([] : List (S71)), false))) = some (r1, r2) := H
            have A48 := Aside0.mk A480
            clear A480
            by_cases c49 : t199 = true
            · subst c49
              have H1 : (some (t196, true)) = some (r1, r2) := by rw [if_pos rfl] at H; exact H
              clear H
              have H := H1
              clear H1
              simp only [Option.some.injEq, Prod.mk.injEq] at H
              obtain ⟨rfl, rfl⟩ := H
              go_wp2_with (first | ((with_reducible refine gate_dst (N := 31) rfl ?_); refine Kd.R_lit k71 _ 71 ?hg (N := 31) ?hd (xs := ([] : List (S71))) (inner := []) (ok := fun _ => True) (okp := fun _ => True) ?hr ?hp (fun _ hk => hk) trivial (Below.refl _ _) (Nat.le_refl _) (by simp) ?_; (case hd => rfl); (case hg => rfl); (case hr => first | (go_simp; done) | (go_simp; rfl)); (case hp => exact (Reps.none _ _)); intro v190 w50 ho51 hb hg_ hnew_; clear hg_ hnew_; (first | rw [← Ny189.out] at ho51 | (simp only [Int.reduceToNat] at ho51; rw [← Ny189.out] at ho51)); have HO191 := Aside0.mk (Kd.R_lower ho51 (below_size t1_)); replace BK183 := bkN BK183 hb; replace BK184 := bkN BK184 hb; replace BK185 := bkN BK185 hb; replace HB := Aside0.mk (below_step t1_ hb); clear hb ho51; have hnb52 := NB183_184.out; have hnc52 := NB184_183.out; have hnb53 := NB183_185.out; have hnc53 := NB185_183.out; have hcz54_0 := bc0 BK183; have hfz54_0 := bf BK183 0) | ((with_reducible refine gate_builtin (b := .append) (xs := #[.tmp 31, .tmp 33]) rfl ?_); at_builtin; refine Kd.R_append_rows k71 (w0 := w) w.heap.size rfl (.tmp 31) (.tmp 33) 28 71 (.agg #[(.string ⟨#[]⟩), (.string ⟨#[]⟩)]) 32 rfl Try.underlying28 info71 rfl (by decide) (by omega) v190 y189 l0_0 _ _ _ (fun _ => True) (fun _ => False) rfl rfl ?aO ?aR (fun _ _ h => h) (fun _ h => h.elim) ?aF ?aB ?aS ?aL ?_; (case aR => exact cB HR0_0 HB); (case aB => exact t1_); (case aF => exact (fun _ _ => trivial)); (case aO => exact t47_); (case aS => exact (below_size t1_)); (case aL => have := LMc45.out; omega); intro v193 w55 ho hb hg hat; rw [← Ny192.out] at ho; have n0_ := Aside0.mk (blk_grown (g := gb183) (o := .cells #[.slice A0_0 l0_0.length c0_0] 30 (0, 0)) t39_ hg (Kd.R_ne HO191.out BK183.out (by decide))); have n1_ := Aside0.mk (blk_grown (g := gb184) (o := .cells #[.int .i64 a1_0, .string a1_1, .string a1_2, .string a1_3] 65 (0, 0)) t40_ hg (Kd.R_ne HO191.out BK184.out (by decide))); have n2_ := Aside0.mk (blk_grown (g := gb185) (o := .cells #[.slice none 0 0] 30 (0, 0)) t41_ hg (Kd.R_ne HO191.out BK185.out (by decide))); have n3_ := Aside0.mk (hb); have n4_ := Aside0.mk (ho); clear BK183; clear BK184; clear BK185; clear HB; clear HO191; have BK183 := n0_; have BK184 := n1_; have BK185 := n2_; have HB := n3_; have HO194 := n4_; clear n0_ n1_ n2_ n3_ n4_; clear ho hb hg hat; obtain ⟨Ao56, co56, eo56⟩ := Kd.R_slice HO194.out; subst eo56) | ((with_reducible refine gate_dst (N := 7) rfl ?_); refine boxE (N := 7) (cs := #[.slice none 0 0]) (t := 30) (h := ?_); intro gb195 hg w57 hbox hb; replace HO194 := Aside0.mk (Kd.R_below t25_ hb); have BK195 := Aside0.mk (hbox); have GW195 := Aside0.mk ((t15_ : w.heap.size ≤ gb195)); have GE195 := Aside0.mk ((t15_ : w.heap.size ≤ gb195)); replace HB := Aside0.mk (below_step t1_ hb); have NB183_195 := nbL BK183 hg; have NB195_183 := nbG BK183 hg; replace BK183 := bkN BK183 hb; have NB184_195 := nbL BK184 hg; have NB195_184 := nbG BK184 hg; replace BK184 := bkN BK184 hb; have NB185_195 := nbL BK185 hg; have NB195_185 := nbG BK185 hg; replace BK185 := bkN BK185 hb; clear hb hbox hg; have hnb58 := NB195_183.out; have hnc58 := NB183_195.out; have hnb59 := NB195_184.out; have hnc59 := NB184_195.out; have hnb60 := NB195_185.out; have hnc60 := NB185_195.out; have hcz61_0 := bc0 BK195; have hfz61_0 := bf BK195 0; have hnb62 := NB184_185.out; have hnc62 := NB185_184.out; have hcz63_0 := bc0 BK184; have hcz63_1 := bc1 BK184; have hcz63_2 := bc2 BK184; have hcz63_3 := bc3 BK184; have hfz63_0 := bf BK184 0; have hfz63_1 := bf BK184 1; have hfz63_2 := bf BK184 2; have hfz63_3 := bf BK184 3; have hcz64_0 := bc0 BK183; have hfz64_0 := bf BK183 0) | ((with_reducible refine gate_callee (f := 79) rfl ?_); refine goesL_ (some 46) rfl rfl Try.func79 (by kernel_rfl) rfl #[.agg #[.slice A0_0 l0_0.length c0_0], .agg #[.string a1_1, .string a1_3]] rfl t2_ ?_; (with_reducible refine (spec_l03Put.calls kj3 _ _ l0_0 a1_1 a1_3 t196 _ ?side1 ?side2 A47.out).mono ?_); (case side1 => exact Kd.C_below HR0_0.out t6_); (case side2 => exact HC0_0.out); rintro e w65 ⟨v197, rfl, ho0, hb⟩; refine ⟨_, rfl, ?_⟩; have HO198 := Aside0.mk (Kd.R_lower (Kd.R_new' ho0 (Kd.R_lt (by (with_reducible repeat (first | apply Kd.R_alloc | apply Kd.R_drewN | apply Kd.R_drew)); exact (Kd.R_mono (Kd.R_far (p := ⟨gb195, 0, none⟩) (Kd.R_types HO194.out BK195.out (by decide)) (fun _ hk => hk.2) (.slice Ao56 y192.length co56)) (fun _ h_ => h_.1))))) (below_size t6_)); replace HO194 := Aside0.mk (Kd.R_elder' (by (with_reducible repeat (first | apply Kd.R_alloc | apply Kd.R_drewN | apply Kd.R_drew)); exact (Kd.R_mono (Kd.R_far (p := ⟨gb195, 0, none⟩) (Kd.R_types HO194.out BK195.out (by decide)) (fun _ hk => hk.2) (.slice Ao56 y192.length co56)) (fun _ h_ => h_.1))) (Kd.R_base ho0) hb); replace BK183 := bkF BK183 NB183_195 hb; replace BK184 := bkF BK184 NB184_195 hb; replace BK185 := bkF BK185 NB185_195 hb; replace BK195 := Aside0.mk (blk_below (g := gb195) (o := .cells #[.slice Ao56 y192.length co56] 30 (0, 0)) (by (with_reducible repeat (first | refine blk_drewN ?_ _ | refine blk_drew ?_ | refine blk_alloc ?_ _)); refine blk_put (cs := #[.slice none 0 0]) ?_ 0 _ rfl; (with_reducible repeat (first | refine blk_drewN ?_ _ | refine blk_drew ?_ | refine blk_alloc ?_ _)); exact BK195.out) hb); replace HB := Aside0.mk (below_step t6_ hb); (try clear hb); (try clear hb2); (try clear hk); (try clear hi); (try clear ho0); obtain ⟨Ao66, co66, eo66⟩ := Kd.R_slice HO198.out; subst eo66; have hcz67_0 := bc0 BK195; have hfz67_0 := bf BK195 0) | ((with_reducible refine gate_callee (f := 56) rfl ?_); refine goesL_ (some 89) rfl rfl Try.func56 (by kernel_rfl) rfl #[.agg #[.slice Ao66 t196.length co66]] rfl t2_ ?_; (with_reducible refine (spec_DiskOk.calls kj3 _ _ t196 true _ ?side1 ?side2 A48.out).mono ?_); (case side1 => refine (Kd.R_reads' (e := 71) (base := w.heap.size) (ok := fun k_ => (True ∧ some k_ ≠ (.slice Ao56 y192.length co56 : Value).ownBlock)) (n := t196.length) (c := co66) ?_).2.2; exact (by (with_reducible repeat (first | apply Kd.R_alloc | apply Kd.R_drewN | apply Kd.R_drew)); exact (Kd.R_mono (Kd.R_far (p := ⟨gb195, 0, none⟩) (Kd.R_types HO198.out BK195.out (by decide)) (fun _ hk => hk.2) (.slice Ao66 t196.length co66)) (fun _ h_ => h_.1)))); (case side2 => exact (Kd.R_reads' HO198.out).2.1); rintro e w68 ⟨rfl, hb⟩; refine ⟨_, rfl, ?_⟩; replace HO194 := Aside0.mk (Kd.R_below (by (with_reducible repeat (first | apply Kd.R_alloc | apply Kd.R_drewN | apply Kd.R_drew)); exact (Kd.R_mono (Kd.R_far (p := ⟨gb195, 0, none⟩) (Kd.R_types HO194.out BK195.out (by decide)) (fun _ hk => hk.2) (.slice Ao66 t196.length co66)) (fun _ h_ => h_.1))) hb); replace HO198 := Aside0.mk (Kd.R_below (by (with_reducible repeat (first | apply Kd.R_alloc | apply Kd.R_drewN | apply Kd.R_drew)); exact (Kd.R_mono (Kd.R_far (p := ⟨gb195, 0, none⟩) (Kd.R_types HO198.out BK195.out (by decide)) (fun _ hk => hk.2) (.slice Ao66 t196.length co66)) (fun _ h_ => h_.1))) hb); replace BK183 := bkF BK183 NB183_195 hb; replace BK184 := bkF BK184 NB184_195 hb; replace BK185 := bkF BK185 NB185_195 hb; replace BK195 := Aside0.mk (blk_below (g := gb195) (o := .cells #[.slice Ao66 t196.length co66] 30 (0, 0)) (by (with_reducible repeat (first | refine blk_drewN ?_ _ | refine blk_drew ?_ | refine blk_alloc ?_ _)); refine blk_put (cs := #[.slice Ao56 y192.length co56]) ?_ 0 _ rfl; (with_reducible repeat (first | refine blk_drewN ?_ _ | refine blk_drew ?_ | refine blk_alloc ?_ _)); exact BK195.out) hb); replace HB := Aside0.mk (below_step t6_ hb); (try clear hb); (try clear hb2); (try clear hk); (try clear hi); have hcz69_0 := bc0 BK195; have hfz69_0 := bf BK195 0; have hcz70_0 := bc0 BK185; have hfz70_0 := bf BK185 0))
              refine bodyPost_ret (results_ct rfl _ _ gb185 30 #[.slice Ao66 t196.length co66] (0, 0) _ rfl (by (with_reducible repeat (first | refine blk_drewN ?_ _ | refine blk_drew ?_ | refine blk_alloc ?_ _)); refine blk_put (cs := #[.slice none 0 0]) ?_ 0 _ rfl; (with_reducible repeat (first | refine blk_drewN ?_ _ | refine blk_drew ?_ | refine blk_alloc ?_ _)); exact BK185.out) Try.underlying30 rfl (by kernel_rfl)) rfl ?_
              exact ⟨_, by first | rfl | (simp [errW_none, errW_some] <;> rfl) | (simp [*, errW_none, errW_some] <;> rfl), by (with_reducible repeat (first | apply Kd.R_alloc | apply Kd.R_drewN | apply Kd.R_drew)); exact Kd.R_mono (Kd.R_far (p := ⟨gb185, 0, none⟩) (Kd.R_types HO198.out BK185.out (by decide)) (fun _ hk => hk.2) (.slice Ao66 t196.length co66)) (fun _ hk => trivial), t6_⟩
            · replace c49 := Bool.eq_false_iff.mpr c49
              subst c49
              have H1 : (some (([] : List (S71)), false)) = some (r1, r2) := by rw [if_neg (show ¬ (false = true) by decide)] at H; exact H
              clear H
              have H := H1
              clear H1
              simp only [Option.some.injEq, Prod.mk.injEq] at H
              obtain ⟨rfl, rfl⟩ := H
              go_wp2_with (first | ((with_reducible refine gate_dst (N := 31) rfl ?_); refine Kd.R_lit k71 _ 71 ?hg (N := 31) ?hd (xs := ([] : List (S71))) (inner := []) (ok := fun _ => True) (okp := fun _ => True) ?hr ?hp (fun _ hk => hk) trivial (Below.refl _ _) (Nat.le_refl _) (by simp) ?_; (case hd => rfl); (case hg => rfl); (case hr => first | (go_simp; done) | (go_simp; rfl)); (case hp => exact (Reps.none _ _)); intro v190 w71 ho72 hb hg_ hnew_; clear hg_ hnew_; (first | rw [← Ny189.out] at ho72 | (simp only [Int.reduceToNat] at ho72; rw [← Ny189.out] at ho72)); have HO191 := Aside0.mk (Kd.R_lower ho72 (below_size t1_)); replace BK183 := bkN BK183 hb; replace BK184 := bkN BK184 hb; replace BK185 := bkN BK185 hb; replace HB := Aside0.mk (below_step t1_ hb); clear hb ho72; have hnb73 := NB183_184.out; have hnc73 := NB184_183.out; have hnb74 := NB183_185.out; have hnc74 := NB185_183.out; have hcz75_0 := bc0 BK183; have hfz75_0 := bf BK183 0) | ((with_reducible refine gate_builtin (b := .append) (xs := #[.tmp 31, .tmp 33]) rfl ?_); at_builtin; refine Kd.R_append_rows k71 (w0 := w) w.heap.size rfl (.tmp 31) (.tmp 33) 28 71 (.agg #[(.string ⟨#[]⟩), (.string ⟨#[]⟩)]) 32 rfl Try.underlying28 info71 rfl (by decide) (by omega) v190 y189 l0_0 _ _ _ (fun _ => True) (fun _ => False) rfl rfl ?aO ?aR (fun _ _ h => h) (fun _ h => h.elim) ?aF ?aB ?aS ?aL ?_; (case aR => exact cB HR0_0 HB); (case aB => exact t1_); (case aF => exact (fun _ _ => trivial)); (case aO => exact t47_); (case aS => exact (below_size t1_)); (case aL => have := LMc45.out; omega); intro v193 w76 ho hb hg hat; rw [← Ny192.out] at ho; have n0_ := Aside0.mk (blk_grown (g := gb183) (o := .cells #[.slice A0_0 l0_0.length c0_0] 30 (0, 0)) t39_ hg (Kd.R_ne HO191.out BK183.out (by decide))); have n1_ := Aside0.mk (blk_grown (g := gb184) (o := .cells #[.int .i64 a1_0, .string a1_1, .string a1_2, .string a1_3] 65 (0, 0)) t40_ hg (Kd.R_ne HO191.out BK184.out (by decide))); have n2_ := Aside0.mk (blk_grown (g := gb185) (o := .cells #[.slice none 0 0] 30 (0, 0)) t41_ hg (Kd.R_ne HO191.out BK185.out (by decide))); have n3_ := Aside0.mk (hb); have n4_ := Aside0.mk (ho); clear BK183; clear BK184; clear BK185; clear HB; clear HO191; have BK183 := n0_; have BK184 := n1_; have BK185 := n2_; have HB := n3_; have HO194 := n4_; clear n0_ n1_ n2_ n3_ n4_; clear ho hb hg hat; obtain ⟨Ao77, co77, eo77⟩ := Kd.R_slice HO194.out; subst eo77) | ((with_reducible refine gate_dst (N := 7) rfl ?_); refine boxE (N := 7) (cs := #[.slice none 0 0]) (t := 30) (h := ?_); intro gb195 hg w78 hbox hb; replace HO194 := Aside0.mk (Kd.R_below t25_ hb); have BK195 := Aside0.mk (hbox); have GW195 := Aside0.mk ((t15_ : w.heap.size ≤ gb195)); have GE195 := Aside0.mk ((t15_ : w.heap.size ≤ gb195)); replace HB := Aside0.mk (below_step t1_ hb); have NB183_195 := nbL BK183 hg; have NB195_183 := nbG BK183 hg; replace BK183 := bkN BK183 hb; have NB184_195 := nbL BK184 hg; have NB195_184 := nbG BK184 hg; replace BK184 := bkN BK184 hb; have NB185_195 := nbL BK185 hg; have NB195_185 := nbG BK185 hg; replace BK185 := bkN BK185 hb; clear hb hbox hg; have hnb79 := NB195_183.out; have hnc79 := NB183_195.out; have hnb80 := NB195_184.out; have hnc80 := NB184_195.out; have hnb81 := NB195_185.out; have hnc81 := NB185_195.out; have hcz82_0 := bc0 BK195; have hfz82_0 := bf BK195 0; have hnb83 := NB184_185.out; have hnc83 := NB185_184.out; have hcz84_0 := bc0 BK184; have hcz84_1 := bc1 BK184; have hcz84_2 := bc2 BK184; have hcz84_3 := bc3 BK184; have hfz84_0 := bf BK184 0; have hfz84_1 := bf BK184 1; have hfz84_2 := bf BK184 2; have hfz84_3 := bf BK184 3; have hcz85_0 := bc0 BK183; have hfz85_0 := bf BK183 0) | ((with_reducible refine gate_callee (f := 79) rfl ?_); refine goesL_ (some 46) rfl rfl Try.func79 (by kernel_rfl) rfl #[.agg #[.slice A0_0 l0_0.length c0_0], .agg #[.string a1_1, .string a1_3]] rfl t2_ ?_; (with_reducible refine (spec_l03Put.calls kj3 _ _ l0_0 a1_1 a1_3 t196 _ ?side1 ?side2 A47.out).mono ?_); (case side1 => exact Kd.C_below HR0_0.out t6_); (case side2 => exact HC0_0.out); rintro e w86 ⟨v197, rfl, ho0, hb⟩; refine ⟨_, rfl, ?_⟩; have HO198 := Aside0.mk (Kd.R_lower (Kd.R_new' ho0 (Kd.R_lt (by (with_reducible repeat (first | apply Kd.R_alloc | apply Kd.R_drewN | apply Kd.R_drew)); exact (Kd.R_mono (Kd.R_far (p := ⟨gb195, 0, none⟩) (Kd.R_types HO194.out BK195.out (by decide)) (fun _ hk => hk.2) (.slice Ao77 y192.length co77)) (fun _ h_ => h_.1))))) (below_size t6_)); replace HO194 := Aside0.mk (Kd.R_elder' (by (with_reducible repeat (first | apply Kd.R_alloc | apply Kd.R_drewN | apply Kd.R_drew)); exact (Kd.R_mono (Kd.R_far (p := ⟨gb195, 0, none⟩) (Kd.R_types HO194.out BK195.out (by decide)) (fun _ hk => hk.2) (.slice Ao77 y192.length co77)) (fun _ h_ => h_.1))) (Kd.R_base ho0) hb); replace BK183 := bkF BK183 NB183_195 hb; replace BK184 := bkF BK184 NB184_195 hb; replace BK185 := bkF BK185 NB185_195 hb; replace BK195 := Aside0.mk (blk_below (g := gb195) (o := .cells #[.slice Ao77 y192.length co77] 30 (0, 0)) (by (with_reducible repeat (first | refine blk_drewN ?_ _ | refine blk_drew ?_ | refine blk_alloc ?_ _)); refine blk_put (cs := #[.slice none 0 0]) ?_ 0 _ rfl; (with_reducible repeat (first | refine blk_drewN ?_ _ | refine blk_drew ?_ | refine blk_alloc ?_ _)); exact BK195.out) hb); replace HB := Aside0.mk (below_step t6_ hb); (try clear hb); (try clear hb2); (try clear hk); (try clear hi); (try clear ho0); obtain ⟨Ao87, co87, eo87⟩ := Kd.R_slice HO198.out; subst eo87; have hcz88_0 := bc0 BK195; have hfz88_0 := bf BK195 0) | ((with_reducible refine gate_callee (f := 56) rfl ?_); refine goesL_ (some 89) rfl rfl Try.func56 (by kernel_rfl) rfl #[.agg #[.slice Ao87 t196.length co87]] rfl t2_ ?_; (with_reducible refine (spec_DiskOk.calls kj3 _ _ t196 false _ ?side1 ?side2 A48.out).mono ?_); (case side1 => refine (Kd.R_reads' (e := 71) (base := w.heap.size) (ok := fun k_ => (True ∧ some k_ ≠ (.slice Ao77 y192.length co77 : Value).ownBlock)) (n := t196.length) (c := co87) ?_).2.2; exact (by (with_reducible repeat (first | apply Kd.R_alloc | apply Kd.R_drewN | apply Kd.R_drew)); exact (Kd.R_mono (Kd.R_far (p := ⟨gb195, 0, none⟩) (Kd.R_types HO198.out BK195.out (by decide)) (fun _ hk => hk.2) (.slice Ao87 t196.length co87)) (fun _ h_ => h_.1)))); (case side2 => exact (Kd.R_reads' HO198.out).2.1); rintro e w89 ⟨rfl, hb⟩; refine ⟨_, rfl, ?_⟩; replace HO194 := Aside0.mk (Kd.R_below (by (with_reducible repeat (first | apply Kd.R_alloc | apply Kd.R_drewN | apply Kd.R_drew)); exact (Kd.R_mono (Kd.R_far (p := ⟨gb195, 0, none⟩) (Kd.R_types HO194.out BK195.out (by decide)) (fun _ hk => hk.2) (.slice Ao87 t196.length co87)) (fun _ h_ => h_.1))) hb); replace HO198 := Aside0.mk (Kd.R_below (by (with_reducible repeat (first | apply Kd.R_alloc | apply Kd.R_drewN | apply Kd.R_drew)); exact (Kd.R_mono (Kd.R_far (p := ⟨gb195, 0, none⟩) (Kd.R_types HO198.out BK195.out (by decide)) (fun _ hk => hk.2) (.slice Ao87 t196.length co87)) (fun _ h_ => h_.1))) hb); replace BK183 := bkF BK183 NB183_195 hb; replace BK184 := bkF BK184 NB184_195 hb; replace BK185 := bkF BK185 NB185_195 hb; replace BK195 := Aside0.mk (blk_below (g := gb195) (o := .cells #[.slice Ao87 t196.length co87] 30 (0, 0)) (by (with_reducible repeat (first | refine blk_drewN ?_ _ | refine blk_drew ?_ | refine blk_alloc ?_ _)); refine blk_put (cs := #[.slice Ao77 y192.length co77]) ?_ 0 _ rfl; (with_reducible repeat (first | refine blk_drewN ?_ _ | refine blk_drew ?_ | refine blk_alloc ?_ _)); exact BK195.out) hb); replace HB := Aside0.mk (below_step t6_ hb); (try clear hb); (try clear hb2); (try clear hk); (try clear hi); have hcz90_0 := bc0 BK185; have hfz90_0 := bf BK185 0))
              refine bodyPost_ret (results_ct rfl _ _ gb185 30 #[.slice none 0 0] (0, 0) _ rfl (by (with_reducible repeat (first | refine blk_drewN ?_ _ | refine blk_drew ?_ | refine blk_alloc ?_ _)); refine blk_put (cs := #[.slice none 0 0]) ?_ 0 _ rfl; (with_reducible repeat (first | refine blk_drewN ?_ _ | refine blk_drew ?_ | refine blk_alloc ?_ _)); exact BK185.out) Try.underlying30 rfl (by kernel_rfl)) rfl ?_
              exact ⟨_, by first | rfl | (simp [errW_none, errW_some] <;> rfl) | (simp [*, errW_none, errW_some] <;> rfl), by first | exact Kd.R_nil _ _ _ _ _ | exact Kd.N_nil _ _ _ _ _ | exact Kd.V_nil _ _ _ _ _ | exact Kd.Q_nil _ _ _ _ _ | exact Kd.S_nil _ _ _ _ _, t6_⟩
          · rw [if_neg c46] at H
            have c46b0 : (a1_0 == 1) = false := beq_eq_false_iff_ne.mpr c46
            have c46b1 : (a1_0 != 1) = true := bne_iff_ne.mpr c46
            by_cases c91 : a1_0 = 2
            · rw [if_pos c91] at H
              have c91b0 : (a1_0 == 2) = true := beq_iff_eq.mpr c91
              have c91b1 : (a1_0 != 2) = false := bne_eq_false_iff_eq.mpr c91
              clear c91
              replace H := Option.bind_eq_some_iff.mp H
              obtain ⟨t200, A920, H⟩ := H
              replace H : (if t200.size + a1_3.size ≤ 9223372036854775807 then ((spec_l03Put.f kj3 l0_0 a1_1 (t200 ++ a1_3)).bind fun t201 => ((spec_DiskOk.f kj3 t201).bind fun t204 => (if t204 = true then (some (t201, true)) else (some (([] : List (S71)), false))))) else (none)) = some (r1, r2) := H
              have A92 := Aside0.mk A920
              clear A920
              by_cases c93 : t200.size + a1_3.size ≤ 9223372036854775807
              · rw [if_pos c93] at H
                have c93b0 := eq_true c93
                have c93b1 : decide (t200.size + a1_3.size ≤ 9223372036854775807) = true := decide_eq_true c93
                try have c93b2 : (9223372036854775807 < t200.size + a1_3.size) = False := eq_false (Nat.not_lt.2 c93)
                replace H := Option.bind_eq_some_iff.mp H
                obtain ⟨t201, A940, H⟩ := H
                replace H : ((spec_DiskOk.f kj3 t201).bind fun t204 => (if t204 = true then (some (t201, true)) else (some (([] : List (S71)), false)))) = some (r1, r2) := H
                have A94 := Aside0.mk A940
                clear A940
                replace H := Option.bind_eq_some_iff.mp H
                obtain ⟨t204, A950, H⟩ := H
                replace H : (if t204 = true then (some (t201, true)) else (some (([] : List (S71)), false))) = some (r1, r2) := H
                have A95 := Aside0.mk A950
                clear A950
                by_cases c96 : t204 = true
                · subst c96
                  have H1 : (some (t201, true)) = some (r1, r2) := by rw [if_pos rfl] at H; exact H
                  clear H
                  have H := H1
                  clear H1
                  simp only [Option.some.injEq, Prod.mk.injEq] at H
                  obtain ⟨rfl, rfl⟩ := H
                  try go_wp2_with (first | ((with_reducible refine gate_dst (N := 31) rfl ?_); refine Kd.R_lit k71 _ 71 ?hg (N := 31) ?hd (xs := ([] : List (S71))) (inner := []) (ok := fun _ => True) (okp := fun _ => True) ?hr ?hp (fun _ hk => hk) trivial (Below.refl _ _) (Nat.le_refl _) (by simp) ?_; (case hd => rfl); (case hg => rfl); (case hr => first | (go_simp; done) | (go_simp; rfl)); (case hp => exact (Reps.none _ _)); intro v190 w97 ho98 hb hg_ hnew_; clear hg_ hnew_; (first | rw [← Ny189.out] at ho98 | (simp only [Int.reduceToNat] at ho98; rw [← Ny189.out] at ho98)); have HO191 := Aside0.mk (Kd.R_lower ho98 (below_size t1_)); replace BK183 := bkN BK183 hb; replace BK184 := bkN BK184 hb; replace BK185 := bkN BK185 hb; replace HB := Aside0.mk (below_step t1_ hb); clear hb ho98; have hnb99 := NB183_184.out; have hnc99 := NB184_183.out; have hnb100 := NB183_185.out; have hnc100 := NB185_183.out; have hcz101_0 := bc0 BK183; have hfz101_0 := bf BK183 0) | ((with_reducible refine gate_builtin (b := .append) (xs := #[.tmp 31, .tmp 33]) rfl ?_); at_builtin; refine Kd.R_append_rows k71 (w0 := w) w.heap.size rfl (.tmp 31) (.tmp 33) 28 71 (.agg #[(.string ⟨#[]⟩), (.string ⟨#[]⟩)]) 32 rfl Try.underlying28 info71 rfl (by decide) (by omega) v190 y189 l0_0 _ _ _ (fun _ => True) (fun _ => False) rfl rfl ?aO ?aR (fun _ _ h => h) (fun _ h => h.elim) ?aF ?aB ?aS ?aL ?_; (case aR => exact cB HR0_0 HB); (case aB => exact t1_); (case aF => exact (fun _ _ => trivial)); (case aO => exact t47_); (case aS => exact (below_size t1_)); (case aL => have := LMc45.out; omega); intro v193 w102 ho hb hg hat; rw [← Ny192.out] at ho; have n0_ := Aside0.mk (blk_grown (g := gb183) (o := .cells #[.slice A0_0 l0_0.length c0_0] 30 (0, 0)) t39_ hg (Kd.R_ne HO191.out BK183.out (by decide))); have n1_ := Aside0.mk (blk_grown (g := gb184) (o := .cells #[.int .i64 a1_0, .string a1_1, .string a1_2, .string a1_3] 65 (0, 0)) t40_ hg (Kd.R_ne HO191.out BK184.out (by decide))); have n2_ := Aside0.mk (blk_grown (g := gb185) (o := .cells #[.slice none 0 0] 30 (0, 0)) t41_ hg (Kd.R_ne HO191.out BK185.out (by decide))); have n3_ := Aside0.mk (hb); have n4_ := Aside0.mk (ho); clear BK183; clear BK184; clear BK185; clear HB; clear HO191; have BK183 := n0_; have BK184 := n1_; have BK185 := n2_; have HB := n3_; have HO194 := n4_; clear n0_ n1_ n2_ n3_ n4_; clear ho hb hg hat; obtain ⟨Ao103, co103, eo103⟩ := Kd.R_slice HO194.out; subst eo103) | ((with_reducible refine gate_dst (N := 7) rfl ?_); refine boxE (N := 7) (cs := #[.slice none 0 0]) (t := 30) (h := ?_); intro gb195 hg w104 hbox hb; replace HO194 := Aside0.mk (Kd.R_below t25_ hb); have BK195 := Aside0.mk (hbox); have GW195 := Aside0.mk ((t15_ : w.heap.size ≤ gb195)); have GE195 := Aside0.mk ((t15_ : w.heap.size ≤ gb195)); replace HB := Aside0.mk (below_step t1_ hb); have NB183_195 := nbL BK183 hg; have NB195_183 := nbG BK183 hg; replace BK183 := bkN BK183 hb; have NB184_195 := nbL BK184 hg; have NB195_184 := nbG BK184 hg; replace BK184 := bkN BK184 hb; have NB185_195 := nbL BK185 hg; have NB195_185 := nbG BK185 hg; replace BK185 := bkN BK185 hb; clear hb hbox hg; have hnb105 := NB195_183.out; have hnc105 := NB183_195.out; have hnb106 := NB195_184.out; have hnc106 := NB184_195.out; have hnb107 := NB195_185.out; have hnc107 := NB185_195.out; have hcz108_0 := bc0 BK195; have hfz108_0 := bf BK195 0; have hnb109 := NB184_185.out; have hnc109 := NB185_184.out; have hcz110_0 := bc0 BK184; have hcz110_1 := bc1 BK184; have hcz110_2 := bc2 BK184; have hcz110_3 := bc3 BK184; have hfz110_0 := bf BK184 0; have hfz110_1 := bf BK184 1; have hfz110_2 := bf BK184 2; have hfz110_3 := bf BK184 3))
                  have n0_ : Aside0 (Kd.R k71 71 (w104.setCell ⟨gb195, 0, none⟩ (.slice Ao103 y192.length co103)) w.heap.size (fun _ => True) (.slice Ao103 y192.length co103) y192) := ⟨by (with_reducible repeat (first | apply Kd.R_alloc | apply Kd.R_drewN | apply Kd.R_drew)); exact Kd.R_mono (Kd.R_far (p := ⟨gb195, 0, none⟩) (Kd.R_types HO194.out BK195.out (by decide)) (fun _ hk => hk.2) (.slice Ao103 y192.length co103)) (fun _ hk => trivial)⟩
                  have n1_ : Aside0 ((w104.setCell ⟨gb195, 0, none⟩ (.slice Ao103 y192.length co103)).heap[gb183]? = some (.cells #[.slice A0_0 l0_0.length c0_0] 30 (0, 0))) := ⟨by (with_reducible repeat (first | refine blk_drewN ?_ _ | refine blk_drew ?_ | refine blk_alloc ?_ _)); refine blk_far ?_ NB183_195.out _; (with_reducible repeat (first | refine blk_drewN ?_ _ | refine blk_drew ?_ | refine blk_alloc ?_ _)); exact BK183.out⟩
                  have n2_ : Aside0 ((w104.setCell ⟨gb195, 0, none⟩ (.slice Ao103 y192.length co103)).heap[gb184]? = some (.cells #[.int .i64 a1_0, .string a1_1, .string a1_2, .string a1_3] 65 (0, 0))) := ⟨by (with_reducible repeat (first | refine blk_drewN ?_ _ | refine blk_drew ?_ | refine blk_alloc ?_ _)); refine blk_far ?_ NB184_195.out _; (with_reducible repeat (first | refine blk_drewN ?_ _ | refine blk_drew ?_ | refine blk_alloc ?_ _)); exact BK184.out⟩
                  have n3_ : Aside0 ((w104.setCell ⟨gb195, 0, none⟩ (.slice Ao103 y192.length co103)).heap[gb185]? = some (.cells #[.slice none 0 0] 30 (0, 0))) := ⟨by (with_reducible repeat (first | refine blk_drewN ?_ _ | refine blk_drew ?_ | refine blk_alloc ?_ _)); refine blk_far ?_ NB185_195.out _; (with_reducible repeat (first | refine blk_drewN ?_ _ | refine blk_drew ?_ | refine blk_alloc ?_ _)); exact BK185.out⟩
                  have n4_ : Aside0 ((w104.setCell ⟨gb195, 0, none⟩ (.slice Ao103 y192.length co103)).heap[gb195]? = some (.cells #[.slice Ao103 y192.length co103] 30 (0, 0))) := ⟨by (with_reducible repeat (first | refine blk_drewN ?_ _ | refine blk_drew ?_ | refine blk_alloc ?_ _)); refine blk_put (cs := #[.slice none 0 0]) ?_ 0 _ rfl; (with_reducible repeat (first | refine blk_drewN ?_ _ | refine blk_drew ?_ | refine blk_alloc ?_ _)); exact BK195.out⟩
                  have n5_ : Aside0 (Below w.heap.size w (w104.setCell ⟨gb195, 0, none⟩ (.slice Ao103 y192.length co103))) := ⟨t6_⟩
                  (try clear HO194)
                  (try clear BK183)
                  (try clear BK184)
                  (try clear BK185)
                  (try clear BK195)
                  (try clear HB)
                  generalize (w104.setCell ⟨gb195, 0, none⟩ (.slice Ao103 y192.length co103)) = w111 at n0_ n1_ n2_ n3_ n4_ n5_ ⊢
                  have HO194 := n0_
                  have BK183 := n1_
                  have BK184 := n2_
                  have BK185 := n3_
                  have BK195 := n4_
                  have HB := n5_
                  clear n0_ n1_ n2_ n3_ n4_ n5_
                  replace HO194 := Aside0.mk (Kd.R_drew HO194.out)
                  replace BK183 := Aside0.mk (blk_drew BK183.out)
                  replace BK184 := Aside0.mk (blk_drew BK184.out)
                  replace BK185 := Aside0.mk (blk_drew BK185.out)
                  replace BK195 := Aside0.mk (blk_drew BK195.out)
                  replace HB := Aside0.mk (below_drew1 HB.out)
                  refine start_ (n := 13) (S := fun w' => w'.cell? ⟨gb183, 0, none⟩ = some (.slice A0_0 l0_0.length c0_0) ∧ w'.cell? ⟨gb184, 0, none⟩ = some (.int .i64 a1_0) ∧ w'.cell? ⟨gb184, 1, none⟩ = some (.string a1_1) ∧ w'.cell? ⟨gb184, 2, none⟩ = some (.string a1_2) ∧ w'.cell? ⟨gb184, 3, none⟩ = some (.string a1_3)) (ds := []) #[false, false, false, false, false, false, false, false, false, false, false, false, false] (by kernel_rfl) rfl rfl ⟨bc0 BK183, bc0 BK184, bc1 BK184, bc2 BK184, bc3 BK184⟩ (fun hHeld => ?_); refine with_tabW spec_PutRaw.tab9 spec_PutRaw.bits9 (fun HT_ HW_ => ?_)
                  generalize w111.drew = w112 at HO194 BK183 BK184 BK185 BK195 HB hHeld ⊢
                  refine pure_ (i := 1) (N := some 50) (v := ?_) (a' := ?_) #[false, true, false, false, false, false, false, false, false, false, false, false, false] rfl rfl (any_of HT_.out (by kernel_rfl)) (fun _ _ _ h => h) (Or.inl ⟨by rfl, ?_⟩) ?_ ?_
                  rotate_left
                  · intro w'
                    go_simp
                    with_reducible rfl
                  rotate_left
                  · simp only [Act.put, List.setIfInBounds_toArray, List.set_cons_zero, List.set_cons_succ, i64_w, i32_w]
                    rfl
                  refine pure_ (i := 4) (N := some 53) (v := ?_) (a' := ?_) #[false, true, false, false, true, false, false, false, false, false, false, false, false] rfl rfl (any_of HT_.out (by kernel_rfl)) (fun _ _ _ h => h) (Or.inl ⟨by rfl, ?_⟩) ?_ ?_
                  rotate_left
                  · intro w'
                    go_simp
                    with_reducible rfl
                  rotate_left
                  · simp only [Act.put, List.setIfInBounds_toArray, List.set_cons_zero, List.set_cons_succ, i64_w, i32_w]
                    rfl
                  refine pure_ (i := 7) (N := some 56) (v := ?_) (a' := ?_) #[false, true, false, false, true, false, false, true, false, false, false, false, false] rfl rfl (any_of HT_.out (by kernel_rfl)) (fun _ _ _ h => h) (Or.inl ⟨by rfl, ?_⟩) ?_ ?_
                  rotate_left
                  · intro w'
                    go_simp
                    with_reducible rfl
                  rotate_left
                  · simp only [Act.put, List.setIfInBounds_toArray, List.set_cons_zero, List.set_cons_succ, i64_w, i32_w]
                    rfl
                  refine take_ (i := 0) (N := some 49) (v := ?_) (a' := ?_) #[true, true, false, false, true, false, false, true, false, false, false, false, false] rfl rfl (take_ofW HT_.out HW_.out (by kernel_rfl)) (fun _ _ _ h => h) (Or.inl ⟨by rfl, ?_⟩) hHeld ?_ ?_
                  rotate_left
                  · rintro w' ⟨s0, s1, s2, s3, s4⟩
                    go_simp
                    with_reducible rfl
                  rotate_left
                  · simp only [Act.put, List.setIfInBounds_toArray, List.set_cons_zero, List.set_cons_succ, i64_w, i32_w]
                    rfl
                  refine take_ (i := 2) (N := some 51) (v := ?_) (a' := ?_) #[true, true, true, false, true, false, false, true, false, false, false, false, false] rfl rfl (take_ofW HT_.out HW_.out (by kernel_rfl)) (fun _ _ _ h => h) (Or.inl ⟨by rfl, ?_⟩) hHeld ?_ ?_
                  rotate_left
                  · rintro w' ⟨s0, s1, s2, s3, s4⟩
                    go_simp
                    with_reducible rfl
                  rotate_left
                  · simp only [Act.put, List.setIfInBounds_toArray, List.set_cons_zero, List.set_cons_succ, i64_w, i32_w]
                    rfl
                  refine take_ (i := 3) (N := some 52) (v := ?_) (a' := ?_) #[true, true, true, true, true, false, false, true, false, false, false, false, false] rfl rfl (take_ofW HT_.out HW_.out (by kernel_rfl)) (fun _ _ _ h => h) (Or.inl ⟨by rfl, ?_⟩) hHeld ?_ ?_
                  rotate_left
                  · rintro w' ⟨s0, s1, s2, s3, s4⟩
                    go_simp
                    with_reducible rfl
                  rotate_left
                  · simp only [Act.put, List.setIfInBounds_toArray, List.set_cons_zero, List.set_cons_succ, i64_w, i32_w]
                    rfl
                  refine take_ (i := 5) (N := some 54) (v := ?_) (a' := ?_) #[true, true, true, true, true, true, false, true, false, false, false, false, false] rfl rfl (take_ofW HT_.out HW_.out (by kernel_rfl)) (fun _ _ _ h => h) (Or.inl ⟨by rfl, ?_⟩) hHeld ?_ ?_
                  rotate_left
                  · rintro w' ⟨s0, s1, s2, s3, s4⟩
                    go_simp
                    with_reducible rfl
                  rotate_left
                  · simp only [Act.put, List.setIfInBounds_toArray, List.set_cons_zero, List.set_cons_succ, i64_w, i32_w]
                    rfl
                  refine take_ (i := 8) (N := some 57) (v := ?_) (a' := ?_) #[true, true, true, true, true, true, false, true, true, false, false, false, false] rfl rfl (take_ofW HT_.out HW_.out (by kernel_rfl)) (fun _ _ _ h => h) (Or.inl ⟨by rfl, ?_⟩) hHeld ?_ ?_
                  rotate_left
                  · rintro w' ⟨s0, s1, s2, s3, s4⟩
                    go_simp
                    with_reducible rfl
                  rotate_left
                  · simp only [Act.put, List.setIfInBounds_toArray, List.set_cons_zero, List.set_cons_succ, i64_w, i32_w]
                    rfl
                  refine one_ (i := 6) (N := some 55) #[true, true, true, true, true, true, true, true, true, false, false, false, false] rfl rfl (one_of HT_.out (by kernel_rfl)) (by decide) (fun K hK => ?_)
                  refine goes_ Try.func87 (by kernel_rfl) rfl #[.agg #[.slice A0_0 l0_0.length c0_0], .string a1_1] (by rfl) rfl rfl t2_ ?_
                  with_reducible refine (spec_l03Text.calls kj3 _ _ l0_0 a1_1 t200 _ ?side1 ?side2 A92.out).mono ?_
                  (case side1 => exact cB HR0_0 HB)
                  (case side2 => exact HC0_0.out)
                  rintro e w113 ⟨rfl, hb⟩
                  refine ⟨_, rfl, ?_⟩
                  replace HO194 := Aside0.mk (Kd.R_below t25_ hb)
                  replace BK183 := bkN BK183 hb
                  replace BK184 := bkN BK184 hb
                  replace BK185 := bkN BK185 hb
                  replace BK195 := bkN BK195 hb
                  replace HB := Aside0.mk (below_step t6_ hb)
                  (try clear hb)
                  (try clear hb2)
                  (try clear hk)
                  (try clear hi)
                  refine hK.out _ _ ⟨bc0 BK183, bc0 BK184, bc1 BK184, bc2 BK184, bc3 BK184⟩ (fun hHeld => ?_)
                  clear hK K
                  refine norm_ (a' := ?_) ?_ ?_
                  rotate_left
                  · show Act.put _ (some 55) _ = _
                    simp only [Act.put, List.setIfInBounds_toArray, List.set_cons_zero, List.set_cons_succ, i64_w, i32_w]
                    rfl
                  refine pure_ (i := 9) (N := some 58) (v := ?_) (a' := ?_) #[true, true, true, true, true, true, true, true, true, true, false, false, false] rfl rfl (any_of HT_.out (by kernel_rfl)) (fun _ _ _ h => h) (Or.inl ⟨by rfl, ?_⟩) ?_ ?_
                  rotate_left
                  · intro w'
                    go_simp
                    with_reducible rfl
                  rotate_left
                  · simp only [Act.put, List.setIfInBounds_toArray, List.set_cons_zero, List.set_cons_succ, i64_w, i32_w]
                    rfl
                  refine pure_ (i := 10) (N := some 59) (v := ?_) (a' := ?_) #[true, true, true, true, true, true, true, true, true, true, true, false, false] rfl rfl (any_of HT_.out (by kernel_rfl)) (fun _ _ _ h => h) (Or.inl ⟨by rfl, ?_⟩) ?_ ?_
                  rotate_left
                  · intro w'
                    go_simp
                    with_reducible rfl
                  rotate_left
                  · simp only [Act.put, List.setIfInBounds_toArray, List.set_cons_zero, List.set_cons_succ, i64_w, i32_w]
                    rfl
                  refine one_ (i := 11) (N := some 60) #[true, true, true, true, true, true, true, true, true, true, true, true, false] rfl rfl (one_of HT_.out (by kernel_rfl)) (by decide) (fun K hK => ?_)
                  refine goes_ Try.func79 (by kernel_rfl) rfl #[.agg #[.slice A0_0 l0_0.length c0_0], .agg #[.string a1_1, .string (t200 ++ a1_3)]] (by rfl) rfl rfl t2_ ?_
                  with_reducible refine (spec_l03Put.calls kj3 _ _ l0_0 a1_1 (t200 ++ a1_3) t201 _ ?side1 ?side2 A94.out).mono ?_
                  (case side1 => exact cB HR0_0 HB)
                  (case side2 => exact HC0_0.out)
                  rintro e w114 ⟨v202, rfl, ho0, hb⟩
                  refine ⟨_, rfl, ?_⟩
                  have HO203 := Aside0.mk (Kd.R_lower (Kd.R_new' ho0 (Kd.R_lt t25_)) (below_size t6_))
                  replace HO194 := Aside0.mk (Kd.R_elder' t25_ (Kd.R_base ho0) hb)
                  replace BK183 := bkN BK183 hb
                  replace BK184 := bkN BK184 hb
                  replace BK185 := bkN BK185 hb
                  replace BK195 := bkN BK195 hb
                  replace HB := Aside0.mk (below_step t6_ hb)
                  (try clear hb)
                  (try clear hb2)
                  (try clear hk)
                  (try clear hi)
                  (try clear ho0)
                  obtain ⟨Ao115, co115, eo115⟩ := Kd.R_slice HO203.out
                  (first | subst eo115 | (injection eo115 with f1_ f2_ f3_; have f4_ := f1_.symm; have f5_ := f3_.symm; clear f1_ f2_ f3_; subst f4_; subst f5_))
                  refine hK.out _ _ ⟨bc0 BK183, bc0 BK184, bc1 BK184, bc2 BK184, bc3 BK184⟩ (fun hHeld => ?_)
                  clear hK K
                  refine norm_ (a' := ?_) ?_ ?_
                  rotate_left
                  · show Act.put _ (some 60) _ = _
                    simp only [Act.put, List.setIfInBounds_toArray, List.set_cons_zero, List.set_cons_succ, i64_w, i32_w]
                    rfl
                  refine one_ (i := 12) (N := none) #[true, true, true, true, true, true, true, true, true, true, true, true, true] rfl rfl (one_of HT_.out (by kernel_rfl)) (by decide) (fun K hK => ?_)
                  have hs116 : w114.cell? ⟨gb195, 0, none⟩ = some (.slice Ao103 y192.length co103) := bc0 BK195
                  have hfs116 := bf BK195 0
                  have hns116_0 := NB183_195.out
                  have hns116_1 := NB184_195.out
                  have hns116_2 := NB185_195.out
                  have hms116_0 := NB195_183.out
                  have hms116_1 := NB195_184.out
                  have hms116_2 := NB195_185.out
                  refine skip_ (w1 := ?_) (by rfl) rfl ?_ ?_
                  rotate_left
                  · go_simp
                    rfl
                  refine hK.out _ _ ⟨((cell_far (p := ⟨gb195, _, none⟩) NB183_195.out _).trans (hHeld.1)), ((cell_far (p := ⟨gb195, _, none⟩) NB184_195.out _).trans (hHeld.2.1)), ((cell_far (p := ⟨gb195, _, none⟩) NB184_195.out _).trans (hHeld.2.2.1)), ((cell_far (p := ⟨gb195, _, none⟩) NB184_195.out _).trans (hHeld.2.2.2.1)), ((cell_far (p := ⟨gb195, _, none⟩) NB184_195.out _).trans (hHeld.2.2.2.2))⟩ (fun hHeld => ?_)
                  clear hK K
                  refine done_ (done_of HT_.out (by kernel_rfl)) ?_
                  have hcz117_0 := bc0 BK195
                  have hfz117_0 := bf BK195 0
                  try go_wp2_with (first | ((with_reducible refine gate_callee (f := 56) rfl ?_); refine goesL_ (some 89) rfl rfl Try.func56 (by kernel_rfl) rfl #[.agg #[.slice Ao115 t201.length co115]] rfl t2_ ?_; (with_reducible refine (spec_DiskOk.calls kj3 _ _ t201 true _ ?side1 ?side2 A95.out).mono ?_); (case side1 => refine (Kd.R_reads' (e := 71) (base := w.heap.size) (ok := fun k_ => (True ∧ some k_ ≠ (.slice Ao103 y192.length co103 : Value).ownBlock)) (n := t201.length) (c := co115) ?_).2.2; exact (by (with_reducible repeat (first | apply Kd.R_alloc | apply Kd.R_drewN | apply Kd.R_drew)); exact (Kd.R_mono (Kd.R_far (p := ⟨gb195, 0, none⟩) (Kd.R_types HO203.out BK195.out (by decide)) (fun _ hk => hk.2) (.slice Ao115 t201.length co115)) (fun _ h_ => h_.1)))); (case side2 => exact (Kd.R_reads' HO203.out).2.1); rintro e w118 ⟨rfl, hb⟩; refine ⟨_, rfl, ?_⟩; replace HO194 := Aside0.mk (Kd.R_below (by (with_reducible repeat (first | apply Kd.R_alloc | apply Kd.R_drewN | apply Kd.R_drew)); exact (Kd.R_mono (Kd.R_far (p := ⟨gb195, 0, none⟩) (Kd.R_types HO194.out BK195.out (by decide)) (fun _ hk => hk.2) (.slice Ao115 t201.length co115)) (fun _ h_ => h_.1))) hb); replace HO203 := Aside0.mk (Kd.R_below (by (with_reducible repeat (first | apply Kd.R_alloc | apply Kd.R_drewN | apply Kd.R_drew)); exact (Kd.R_mono (Kd.R_far (p := ⟨gb195, 0, none⟩) (Kd.R_types HO203.out BK195.out (by decide)) (fun _ hk => hk.2) (.slice Ao115 t201.length co115)) (fun _ h_ => h_.1))) hb); replace BK183 := bkF BK183 NB183_195 hb; replace BK184 := bkF BK184 NB184_195 hb; replace BK185 := bkF BK185 NB185_195 hb; replace BK195 := Aside0.mk (blk_below (g := gb195) (o := .cells #[.slice Ao115 t201.length co115] 30 (0, 0)) (by (with_reducible repeat (first | refine blk_drewN ?_ _ | refine blk_drew ?_ | refine blk_alloc ?_ _)); refine blk_put (cs := #[.slice Ao103 y192.length co103]) ?_ 0 _ rfl; (with_reducible repeat (first | refine blk_drewN ?_ _ | refine blk_drew ?_ | refine blk_alloc ?_ _)); exact BK195.out) hb); replace HB := Aside0.mk (below_step t6_ hb); (try clear hb); (try clear hb2); (try clear hk); (try clear hi); have hcz119_0 := bc0 BK195; have hfz119_0 := bf BK195 0; have hcz120_0 := bc0 BK185; have hfz120_0 := bf BK185 0))
                  refine bodyPost_ret (results_ct rfl _ _ gb185 30 #[.slice Ao115 t201.length co115] (0, 0) _ rfl (by (with_reducible repeat (first | refine blk_drewN ?_ _ | refine blk_drew ?_ | refine blk_alloc ?_ _)); refine blk_put (cs := #[.slice none 0 0]) ?_ 0 _ rfl; (with_reducible repeat (first | refine blk_drewN ?_ _ | refine blk_drew ?_ | refine blk_alloc ?_ _)); exact BK185.out) Try.underlying30 rfl (by kernel_rfl)) rfl ?_
                  exact ⟨_, by first | rfl | (simp [errW_none, errW_some] <;> rfl) | (simp [*, errW_none, errW_some] <;> rfl), by (with_reducible repeat (first | apply Kd.R_alloc | apply Kd.R_drewN | apply Kd.R_drew)); exact Kd.R_mono (Kd.R_far (p := ⟨gb185, 0, none⟩) (Kd.R_types HO203.out BK185.out (by decide)) (fun _ hk => hk.2) (.slice Ao115 t201.length co115)) (fun _ hk => trivial), t6_⟩
                · replace c96 := Bool.eq_false_iff.mpr c96
                  subst c96
                  have H1 : (some (([] : List (S71)), false)) = some (r1, r2) := by rw [if_neg (show ¬ (false = true) by decide)] at H; exact H
                  clear H
                  have H := H1
                  clear H1
                  simp only [Option.some.injEq, Prod.mk.injEq] at H
                  obtain ⟨rfl, rfl⟩ := H
                  try go_wp2_with (first | ((with_reducible refine gate_dst (N := 31) rfl ?_); refine Kd.R_lit k71 _ 71 ?hg (N := 31) ?hd (xs := ([] : List (S71))) (inner := []) (ok := fun _ => True) (okp := fun _ => True) ?hr ?hp (fun _ hk => hk) trivial (Below.refl _ _) (Nat.le_refl _) (by simp) ?_; (case hd => rfl); (case hg => rfl); (case hr => first | (go_simp; done) | (go_simp; rfl)); (case hp => exact (Reps.none _ _)); intro v190 w121 ho122 hb hg_ hnew_; clear hg_ hnew_; (first | rw [← Ny189.out] at ho122 | (simp only [Int.reduceToNat] at ho122; rw [← Ny189.out] at ho122)); have HO191 := Aside0.mk (Kd.R_lower ho122 (below_size t1_)); replace BK183 := bkN BK183 hb; replace BK184 := bkN BK184 hb; replace BK185 := bkN BK185 hb; replace HB := Aside0.mk (below_step t1_ hb); clear hb ho122; have hnb123 := NB183_184.out; have hnc123 := NB184_183.out; have hnb124 := NB183_185.out; have hnc124 := NB185_183.out; have hcz125_0 := bc0 BK183; have hfz125_0 := bf BK183 0) | ((with_reducible refine gate_builtin (b := .append) (xs := #[.tmp 31, .tmp 33]) rfl ?_); at_builtin; refine Kd.R_append_rows k71 (w0 := w) w.heap.size rfl (.tmp 31) (.tmp 33) 28 71 (.agg #[(.string ⟨#[]⟩), (.string ⟨#[]⟩)]) 32 rfl Try.underlying28 info71 rfl (by decide) (by omega) v190 y189 l0_0 _ _ _ (fun _ => True) (fun _ => False) rfl rfl ?aO ?aR (fun _ _ h => h) (fun _ h => h.elim) ?aF ?aB ?aS ?aL ?_; (case aR => exact cB HR0_0 HB); (case aB => exact t1_); (case aF => exact (fun _ _ => trivial)); (case aO => exact t47_); (case aS => exact (below_size t1_)); (case aL => have := LMc45.out; omega); intro v193 w126 ho hb hg hat; rw [← Ny192.out] at ho; have n0_ := Aside0.mk (blk_grown (g := gb183) (o := .cells #[.slice A0_0 l0_0.length c0_0] 30 (0, 0)) t39_ hg (Kd.R_ne HO191.out BK183.out (by decide))); have n1_ := Aside0.mk (blk_grown (g := gb184) (o := .cells #[.int .i64 a1_0, .string a1_1, .string a1_2, .string a1_3] 65 (0, 0)) t40_ hg (Kd.R_ne HO191.out BK184.out (by decide))); have n2_ := Aside0.mk (blk_grown (g := gb185) (o := .cells #[.slice none 0 0] 30 (0, 0)) t41_ hg (Kd.R_ne HO191.out BK185.out (by decide))); have n3_ := Aside0.mk (hb); have n4_ := Aside0.mk (ho); clear BK183; clear BK184; clear BK185; clear HB; clear HO191; have BK183 := n0_; have BK184 := n1_; have BK185 := n2_; have HB := n3_; have HO194 := n4_; clear n0_ n1_ n2_ n3_ n4_; clear ho hb hg hat; obtain ⟨Ao127, co127, eo127⟩ := Kd.R_slice HO194.out; subst eo127) | ((with_reducible refine gate_dst (N := 7) rfl ?_); refine boxE (N := 7) (cs := #[.slice none 0 0]) (t := 30) (h := ?_); intro gb195 hg w128 hbox hb; replace HO194 := Aside0.mk (Kd.R_below t25_ hb); have BK195 := Aside0.mk (hbox); have GW195 := Aside0.mk ((t15_ : w.heap.size ≤ gb195)); have GE195 := Aside0.mk ((t15_ : w.heap.size ≤ gb195)); replace HB := Aside0.mk (below_step t1_ hb); have NB183_195 := nbL BK183 hg; have NB195_183 := nbG BK183 hg; replace BK183 := bkN BK183 hb; have NB184_195 := nbL BK184 hg; have NB195_184 := nbG BK184 hg; replace BK184 := bkN BK184 hb; have NB185_195 := nbL BK185 hg; have NB195_185 := nbG BK185 hg; replace BK185 := bkN BK185 hb; clear hb hbox hg; have hnb129 := NB195_183.out; have hnc129 := NB183_195.out; have hnb130 := NB195_184.out; have hnc130 := NB184_195.out; have hnb131 := NB195_185.out; have hnc131 := NB185_195.out; have hcz132_0 := bc0 BK195; have hfz132_0 := bf BK195 0; have hnb133 := NB184_185.out; have hnc133 := NB185_184.out; have hcz134_0 := bc0 BK184; have hcz134_1 := bc1 BK184; have hcz134_2 := bc2 BK184; have hcz134_3 := bc3 BK184; have hfz134_0 := bf BK184 0; have hfz134_1 := bf BK184 1; have hfz134_2 := bf BK184 2; have hfz134_3 := bf BK184 3))
                  have n0_ : Aside0 (Kd.R k71 71 (w128.setCell ⟨gb195, 0, none⟩ (.slice Ao127 y192.length co127)) w.heap.size (fun _ => True) (.slice Ao127 y192.length co127) y192) := ⟨by (with_reducible repeat (first | apply Kd.R_alloc | apply Kd.R_drewN | apply Kd.R_drew)); exact Kd.R_mono (Kd.R_far (p := ⟨gb195, 0, none⟩) (Kd.R_types HO194.out BK195.out (by decide)) (fun _ hk => hk.2) (.slice Ao127 y192.length co127)) (fun _ hk => trivial)⟩
                  have n1_ : Aside0 ((w128.setCell ⟨gb195, 0, none⟩ (.slice Ao127 y192.length co127)).heap[gb183]? = some (.cells #[.slice A0_0 l0_0.length c0_0] 30 (0, 0))) := ⟨by (with_reducible repeat (first | refine blk_drewN ?_ _ | refine blk_drew ?_ | refine blk_alloc ?_ _)); refine blk_far ?_ NB183_195.out _; (with_reducible repeat (first | refine blk_drewN ?_ _ | refine blk_drew ?_ | refine blk_alloc ?_ _)); exact BK183.out⟩
                  have n2_ : Aside0 ((w128.setCell ⟨gb195, 0, none⟩ (.slice Ao127 y192.length co127)).heap[gb184]? = some (.cells #[.int .i64 a1_0, .string a1_1, .string a1_2, .string a1_3] 65 (0, 0))) := ⟨by (with_reducible repeat (first | refine blk_drewN ?_ _ | refine blk_drew ?_ | refine blk_alloc ?_ _)); refine blk_far ?_ NB184_195.out _; (with_reducible repeat (first | refine blk_drewN ?_ _ | refine blk_drew ?_ | refine blk_alloc ?_ _)); exact BK184.out⟩
                  have n3_ : Aside0 ((w128.setCell ⟨gb195, 0, none⟩ (.slice Ao127 y192.length co127)).heap[gb185]? = some (.cells #[.slice none 0 0] 30 (0, 0))) := ⟨by (with_reducible repeat (first | refine blk_drewN ?_ _ | refine blk_drew ?_ | refine blk_alloc ?_ _)); refine blk_far ?_ NB185_195.out _; (with_reducible repeat (first | refine blk_drewN ?_ _ | refine blk_drew ?_ | refine blk_alloc ?_ _)); exact BK185.out⟩
                  have n4_ : Aside0 ((w128.setCell ⟨gb195, 0, none⟩ (.slice Ao127 y192.length co127)).heap[gb195]? = some (.cells #[.slice Ao127 y192.length co127] 30 (0, 0))) := ⟨by (with_reducible repeat (first | refine blk_drewN ?_ _ | refine blk_drew ?_ | refine blk_alloc ?_ _)); refine blk_put (cs := #[.slice none 0 0]) ?_ 0 _ rfl; (with_reducible repeat (first | refine blk_drewN ?_ _ | refine blk_drew ?_ | refine blk_alloc ?_ _)); exact BK195.out⟩
                  have n5_ : Aside0 (Below w.heap.size w (w128.setCell ⟨gb195, 0, none⟩ (.slice Ao127 y192.length co127))) := ⟨t6_⟩
                  (try clear HO194)
                  (try clear BK183)
                  (try clear BK184)
                  (try clear BK185)
                  (try clear BK195)
                  (try clear HB)
                  generalize (w128.setCell ⟨gb195, 0, none⟩ (.slice Ao127 y192.length co127)) = w135 at n0_ n1_ n2_ n3_ n4_ n5_ ⊢
                  have HO194 := n0_
                  have BK183 := n1_
                  have BK184 := n2_
                  have BK185 := n3_
                  have BK195 := n4_
                  have HB := n5_
                  clear n0_ n1_ n2_ n3_ n4_ n5_
                  replace HO194 := Aside0.mk (Kd.R_drew HO194.out)
                  replace BK183 := Aside0.mk (blk_drew BK183.out)
                  replace BK184 := Aside0.mk (blk_drew BK184.out)
                  replace BK185 := Aside0.mk (blk_drew BK185.out)
                  replace BK195 := Aside0.mk (blk_drew BK195.out)
                  replace HB := Aside0.mk (below_drew1 HB.out)
                  refine start_ (n := 13) (S := fun w' => w'.cell? ⟨gb183, 0, none⟩ = some (.slice A0_0 l0_0.length c0_0) ∧ w'.cell? ⟨gb184, 0, none⟩ = some (.int .i64 a1_0) ∧ w'.cell? ⟨gb184, 1, none⟩ = some (.string a1_1) ∧ w'.cell? ⟨gb184, 2, none⟩ = some (.string a1_2) ∧ w'.cell? ⟨gb184, 3, none⟩ = some (.string a1_3)) (ds := []) #[false, false, false, false, false, false, false, false, false, false, false, false, false] (by kernel_rfl) rfl rfl ⟨bc0 BK183, bc0 BK184, bc1 BK184, bc2 BK184, bc3 BK184⟩ (fun hHeld => ?_); refine with_tabW spec_PutRaw.tab9 spec_PutRaw.bits9 (fun HT_ HW_ => ?_)
                  generalize w135.drew = w136 at HO194 BK183 BK184 BK185 BK195 HB hHeld ⊢
                  refine pure_ (i := 1) (N := some 50) (v := ?_) (a' := ?_) #[false, true, false, false, false, false, false, false, false, false, false, false, false] rfl rfl (any_of HT_.out (by kernel_rfl)) (fun _ _ _ h => h) (Or.inl ⟨by rfl, ?_⟩) ?_ ?_
                  rotate_left
                  · intro w'
                    go_simp
                    with_reducible rfl
                  rotate_left
                  · simp only [Act.put, List.setIfInBounds_toArray, List.set_cons_zero, List.set_cons_succ, i64_w, i32_w]
                    rfl
                  refine pure_ (i := 4) (N := some 53) (v := ?_) (a' := ?_) #[false, true, false, false, true, false, false, false, false, false, false, false, false] rfl rfl (any_of HT_.out (by kernel_rfl)) (fun _ _ _ h => h) (Or.inl ⟨by rfl, ?_⟩) ?_ ?_
                  rotate_left
                  · intro w'
                    go_simp
                    with_reducible rfl
                  rotate_left
                  · simp only [Act.put, List.setIfInBounds_toArray, List.set_cons_zero, List.set_cons_succ, i64_w, i32_w]
                    rfl
                  refine pure_ (i := 7) (N := some 56) (v := ?_) (a' := ?_) #[false, true, false, false, true, false, false, true, false, false, false, false, false] rfl rfl (any_of HT_.out (by kernel_rfl)) (fun _ _ _ h => h) (Or.inl ⟨by rfl, ?_⟩) ?_ ?_
                  rotate_left
                  · intro w'
                    go_simp
                    with_reducible rfl
                  rotate_left
                  · simp only [Act.put, List.setIfInBounds_toArray, List.set_cons_zero, List.set_cons_succ, i64_w, i32_w]
                    rfl
                  refine take_ (i := 0) (N := some 49) (v := ?_) (a' := ?_) #[true, true, false, false, true, false, false, true, false, false, false, false, false] rfl rfl (take_ofW HT_.out HW_.out (by kernel_rfl)) (fun _ _ _ h => h) (Or.inl ⟨by rfl, ?_⟩) hHeld ?_ ?_
                  rotate_left
                  · rintro w' ⟨s0, s1, s2, s3, s4⟩
                    go_simp
                    with_reducible rfl
                  rotate_left
                  · simp only [Act.put, List.setIfInBounds_toArray, List.set_cons_zero, List.set_cons_succ, i64_w, i32_w]
                    rfl
                  refine take_ (i := 2) (N := some 51) (v := ?_) (a' := ?_) #[true, true, true, false, true, false, false, true, false, false, false, false, false] rfl rfl (take_ofW HT_.out HW_.out (by kernel_rfl)) (fun _ _ _ h => h) (Or.inl ⟨by rfl, ?_⟩) hHeld ?_ ?_
                  rotate_left
                  · rintro w' ⟨s0, s1, s2, s3, s4⟩
                    go_simp
                    with_reducible rfl
                  rotate_left
                  · simp only [Act.put, List.setIfInBounds_toArray, List.set_cons_zero, List.set_cons_succ, i64_w, i32_w]
                    rfl
                  refine take_ (i := 3) (N := some 52) (v := ?_) (a' := ?_) #[true, true, true, true, true, false, false, true, false, false, false, false, false] rfl rfl (take_ofW HT_.out HW_.out (by kernel_rfl)) (fun _ _ _ h => h) (Or.inl ⟨by rfl, ?_⟩) hHeld ?_ ?_
                  rotate_left
                  · rintro w' ⟨s0, s1, s2, s3, s4⟩
                    go_simp
                    with_reducible rfl
                  rotate_left
                  · simp only [Act.put, List.setIfInBounds_toArray, List.set_cons_zero, List.set_cons_succ, i64_w, i32_w]
                    rfl
                  refine take_ (i := 5) (N := some 54) (v := ?_) (a' := ?_) #[true, true, true, true, true, true, false, true, false, false, false, false, false] rfl rfl (take_ofW HT_.out HW_.out (by kernel_rfl)) (fun _ _ _ h => h) (Or.inl ⟨by rfl, ?_⟩) hHeld ?_ ?_
                  rotate_left
                  · rintro w' ⟨s0, s1, s2, s3, s4⟩
                    go_simp
                    with_reducible rfl
                  rotate_left
                  · simp only [Act.put, List.setIfInBounds_toArray, List.set_cons_zero, List.set_cons_succ, i64_w, i32_w]
                    rfl
                  refine take_ (i := 8) (N := some 57) (v := ?_) (a' := ?_) #[true, true, true, true, true, true, false, true, true, false, false, false, false] rfl rfl (take_ofW HT_.out HW_.out (by kernel_rfl)) (fun _ _ _ h => h) (Or.inl ⟨by rfl, ?_⟩) hHeld ?_ ?_
                  rotate_left
                  · rintro w' ⟨s0, s1, s2, s3, s4⟩
                    go_simp
                    with_reducible rfl
                  rotate_left
                  · simp only [Act.put, List.setIfInBounds_toArray, List.set_cons_zero, List.set_cons_succ, i64_w, i32_w]
                    rfl
                  refine one_ (i := 6) (N := some 55) #[true, true, true, true, true, true, true, true, true, false, false, false, false] rfl rfl (one_of HT_.out (by kernel_rfl)) (by decide) (fun K hK => ?_)
                  refine goes_ Try.func87 (by kernel_rfl) rfl #[.agg #[.slice A0_0 l0_0.length c0_0], .string a1_1] (by rfl) rfl rfl t2_ ?_
                  with_reducible refine (spec_l03Text.calls kj3 _ _ l0_0 a1_1 t200 _ ?side1 ?side2 A92.out).mono ?_
                  (case side1 => exact cB HR0_0 HB)
                  (case side2 => exact HC0_0.out)
                  rintro e w137 ⟨rfl, hb⟩
                  refine ⟨_, rfl, ?_⟩
                  replace HO194 := Aside0.mk (Kd.R_below t25_ hb)
                  replace BK183 := bkN BK183 hb
                  replace BK184 := bkN BK184 hb
                  replace BK185 := bkN BK185 hb
                  replace BK195 := bkN BK195 hb
                  replace HB := Aside0.mk (below_step t6_ hb)
                  (try clear hb)
                  (try clear hb2)
                  (try clear hk)
                  (try clear hi)
                  refine hK.out _ _ ⟨bc0 BK183, bc0 BK184, bc1 BK184, bc2 BK184, bc3 BK184⟩ (fun hHeld => ?_)
                  clear hK K
                  refine norm_ (a' := ?_) ?_ ?_
                  rotate_left
                  · show Act.put _ (some 55) _ = _
                    simp only [Act.put, List.setIfInBounds_toArray, List.set_cons_zero, List.set_cons_succ, i64_w, i32_w]
                    rfl
                  refine pure_ (i := 9) (N := some 58) (v := ?_) (a' := ?_) #[true, true, true, true, true, true, true, true, true, true, false, false, false] rfl rfl (any_of HT_.out (by kernel_rfl)) (fun _ _ _ h => h) (Or.inl ⟨by rfl, ?_⟩) ?_ ?_
                  rotate_left
                  · intro w'
                    go_simp
                    with_reducible rfl
                  rotate_left
                  · simp only [Act.put, List.setIfInBounds_toArray, List.set_cons_zero, List.set_cons_succ, i64_w, i32_w]
                    rfl
                  refine pure_ (i := 10) (N := some 59) (v := ?_) (a' := ?_) #[true, true, true, true, true, true, true, true, true, true, true, false, false] rfl rfl (any_of HT_.out (by kernel_rfl)) (fun _ _ _ h => h) (Or.inl ⟨by rfl, ?_⟩) ?_ ?_
                  rotate_left
                  · intro w'
                    go_simp
                    with_reducible rfl
                  rotate_left
                  · simp only [Act.put, List.setIfInBounds_toArray, List.set_cons_zero, List.set_cons_succ, i64_w, i32_w]
                    rfl
                  refine one_ (i := 11) (N := some 60) #[true, true, true, true, true, true, true, true, true, true, true, true, false] rfl rfl (one_of HT_.out (by kernel_rfl)) (by decide) (fun K hK => ?_)
                  refine goes_ Try.func79 (by kernel_rfl) rfl #[.agg #[.slice A0_0 l0_0.length c0_0], .agg #[.string a1_1, .string (t200 ++ a1_3)]] (by rfl) rfl rfl t2_ ?_
                  with_reducible refine (spec_l03Put.calls kj3 _ _ l0_0 a1_1 (t200 ++ a1_3) t201 _ ?side1 ?side2 A94.out).mono ?_
                  (case side1 => exact cB HR0_0 HB)
                  (case side2 => exact HC0_0.out)
                  rintro e w138 ⟨v202, rfl, ho0, hb⟩
                  refine ⟨_, rfl, ?_⟩
                  have HO203 := Aside0.mk (Kd.R_lower (Kd.R_new' ho0 (Kd.R_lt t25_)) (below_size t6_))
                  replace HO194 := Aside0.mk (Kd.R_elder' t25_ (Kd.R_base ho0) hb)
                  replace BK183 := bkN BK183 hb
                  replace BK184 := bkN BK184 hb
                  replace BK185 := bkN BK185 hb
                  replace BK195 := bkN BK195 hb
                  replace HB := Aside0.mk (below_step t6_ hb)
                  (try clear hb)
                  (try clear hb2)
                  (try clear hk)
                  (try clear hi)
                  (try clear ho0)
                  obtain ⟨Ao139, co139, eo139⟩ := Kd.R_slice HO203.out
                  (first | subst eo139 | (injection eo139 with f1_ f2_ f3_; have f4_ := f1_.symm; have f5_ := f3_.symm; clear f1_ f2_ f3_; subst f4_; subst f5_))
                  refine hK.out _ _ ⟨bc0 BK183, bc0 BK184, bc1 BK184, bc2 BK184, bc3 BK184⟩ (fun hHeld => ?_)
                  clear hK K
                  refine norm_ (a' := ?_) ?_ ?_
                  rotate_left
                  · show Act.put _ (some 60) _ = _
                    simp only [Act.put, List.setIfInBounds_toArray, List.set_cons_zero, List.set_cons_succ, i64_w, i32_w]
                    rfl
                  refine one_ (i := 12) (N := none) #[true, true, true, true, true, true, true, true, true, true, true, true, true] rfl rfl (one_of HT_.out (by kernel_rfl)) (by decide) (fun K hK => ?_)
                  have hs140 : w138.cell? ⟨gb195, 0, none⟩ = some (.slice Ao127 y192.length co127) := bc0 BK195
                  have hfs140 := bf BK195 0
                  have hns140_0 := NB183_195.out
                  have hns140_1 := NB184_195.out
                  have hns140_2 := NB185_195.out
                  have hms140_0 := NB195_183.out
                  have hms140_1 := NB195_184.out
                  have hms140_2 := NB195_185.out
                  refine skip_ (w1 := ?_) (by rfl) rfl ?_ ?_
                  rotate_left
                  · go_simp
                    rfl
                  refine hK.out _ _ ⟨((cell_far (p := ⟨gb195, _, none⟩) NB183_195.out _).trans (hHeld.1)), ((cell_far (p := ⟨gb195, _, none⟩) NB184_195.out _).trans (hHeld.2.1)), ((cell_far (p := ⟨gb195, _, none⟩) NB184_195.out _).trans (hHeld.2.2.1)), ((cell_far (p := ⟨gb195, _, none⟩) NB184_195.out _).trans (hHeld.2.2.2.1)), ((cell_far (p := ⟨gb195, _, none⟩) NB184_195.out _).trans (hHeld.2.2.2.2))⟩ (fun hHeld => ?_)
                  clear hK K
                  refine done_ (done_of HT_.out (by kernel_rfl)) ?_
                  have hcz141_0 := bc0 BK195
                  have hfz141_0 := bf BK195 0
                  try go_wp2_with (first | ((with_reducible refine gate_callee (f := 56) rfl ?_); refine goesL_ (some 89) rfl rfl Try.func56 (by kernel_rfl) rfl #[.agg #[.slice Ao139 t201.length co139]] rfl t2_ ?_; (with_reducible refine (spec_DiskOk.calls kj3 _ _ t201 false _ ?side1 ?side2 A95.out).mono ?_); (case side1 => refine (Kd.R_reads' (e := 71) (base := w.heap.size) (ok := fun k_ => (True ∧ some k_ ≠ (.slice Ao127 y192.length co127 : Value).ownBlock)) (n := t201.length) (c := co139) ?_).2.2; exact (by (with_reducible repeat (first | apply Kd.R_alloc | apply Kd.R_drewN | apply Kd.R_drew)); exact (Kd.R_mono (Kd.R_far (p := ⟨gb195, 0, none⟩) (Kd.R_types HO203.out BK195.out (by decide)) (fun _ hk => hk.2) (.slice Ao139 t201.length co139)) (fun _ h_ => h_.1)))); (case side2 => exact (Kd.R_reads' HO203.out).2.1); rintro e w142 ⟨rfl, hb⟩; refine ⟨_, rfl, ?_⟩; replace HO194 := Aside0.mk (Kd.R_below (by (with_reducible repeat (first | apply Kd.R_alloc | apply Kd.R_drewN | apply Kd.R_drew)); exact (Kd.R_mono (Kd.R_far (p := ⟨gb195, 0, none⟩) (Kd.R_types HO194.out BK195.out (by decide)) (fun _ hk => hk.2) (.slice Ao139 t201.length co139)) (fun _ h_ => h_.1))) hb); replace HO203 := Aside0.mk (Kd.R_below (by (with_reducible repeat (first | apply Kd.R_alloc | apply Kd.R_drewN | apply Kd.R_drew)); exact (Kd.R_mono (Kd.R_far (p := ⟨gb195, 0, none⟩) (Kd.R_types HO203.out BK195.out (by decide)) (fun _ hk => hk.2) (.slice Ao139 t201.length co139)) (fun _ h_ => h_.1))) hb); replace BK183 := bkF BK183 NB183_195 hb; replace BK184 := bkF BK184 NB184_195 hb; replace BK185 := bkF BK185 NB185_195 hb; replace BK195 := Aside0.mk (blk_below (g := gb195) (o := .cells #[.slice Ao139 t201.length co139] 30 (0, 0)) (by (with_reducible repeat (first | refine blk_drewN ?_ _ | refine blk_drew ?_ | refine blk_alloc ?_ _)); refine blk_put (cs := #[.slice Ao127 y192.length co127]) ?_ 0 _ rfl; (with_reducible repeat (first | refine blk_drewN ?_ _ | refine blk_drew ?_ | refine blk_alloc ?_ _)); exact BK195.out) hb); replace HB := Aside0.mk (below_step t6_ hb); (try clear hb); (try clear hb2); (try clear hk); (try clear hi); have hcz143_0 := bc0 BK185; have hfz143_0 := bf BK185 0))
                  refine bodyPost_ret (results_ct rfl _ _ gb185 30 #[.slice none 0 0] (0, 0) _ rfl (by (with_reducible repeat (first | refine blk_drewN ?_ _ | refine blk_drew ?_ | refine blk_alloc ?_ _)); refine blk_put (cs := #[.slice none 0 0]) ?_ 0 _ rfl; (with_reducible repeat (first | refine blk_drewN ?_ _ | refine blk_drew ?_ | refine blk_alloc ?_ _)); exact BK185.out) Try.underlying30 rfl (by kernel_rfl)) rfl ?_
                  exact ⟨_, by first | rfl | (simp [errW_none, errW_some] <;> rfl) | (simp [*, errW_none, errW_some] <;> rfl), by first | exact Kd.R_nil _ _ _ _ _ | exact Kd.N_nil _ _ _ _ _ | exact Kd.V_nil _ _ _ _ _ | exact Kd.Q_nil _ _ _ _ _ | exact Kd.S_nil _ _ _ _ _, t6_⟩
              · rw [if_neg c93] at H
                exact absurd H (by simp)
            · rw [if_neg c91] at H
              have c91b0 : (a1_0 == 2) = false := beq_eq_false_iff_ne.mpr c91
              have c91b1 : (a1_0 != 2) = true := bne_iff_ne.mpr c91
              by_cases c144 : a1_0 = 3
              · rw [if_pos c144] at H
                have c144b0 : (a1_0 == 3) = true := beq_iff_eq.mpr c144
                have c144b1 : (a1_0 != 3) = false := bne_eq_false_iff_eq.mpr c144
                clear c144
                by_cases c145 : a1_2.toList = a1_1.toList
                · rw [if_pos c145] at H
                  have c145b0 : (a1_2.toList == a1_1.toList) = true := beq_iff_eq.mpr c145
                  have c145b1 : (a1_2.toList != a1_1.toList) = false := bne_eq_false_iff_eq.mpr c145
                  clear c145
                  replace H := Option.bind_eq_some_iff.mp H
                  obtain ⟨t205, A1460, H⟩ := H
                  replace H : (if t205 = true then (some (y192, true)) else (some (([] : List (S71)), false))) = some (r1, r2) := H
                  have A146 := Aside0.mk A1460
                  clear A1460
                  by_cases c147 : t205 = true
                  · subst c147
                    have H1 : (some (y192, true)) = some (r1, r2) := by rw [if_pos rfl] at H; exact H
                    clear H
                    have H := H1
                    clear H1
                    simp only [Option.some.injEq, Prod.mk.injEq] at H
                    obtain ⟨rfl, rfl⟩ := H
                    go_wp2_with (first | ((with_reducible refine gate_dst (N := 31) rfl ?_); refine Kd.R_lit k71 _ 71 ?hg (N := 31) ?hd (xs := ([] : List (S71))) (inner := []) (ok := fun _ => True) (okp := fun _ => True) ?hr ?hp (fun _ hk => hk) trivial (Below.refl _ _) (Nat.le_refl _) (by simp) ?_; (case hd => rfl); (case hg => rfl); (case hr => first | (go_simp; done) | (go_simp; rfl)); (case hp => exact (Reps.none _ _)); intro v190 w148 ho149 hb hg_ hnew_; clear hg_ hnew_; (first | rw [← Ny189.out] at ho149 | (simp only [Int.reduceToNat] at ho149; rw [← Ny189.out] at ho149)); have HO191 := Aside0.mk (Kd.R_lower ho149 (below_size t1_)); replace BK183 := bkN BK183 hb; replace BK184 := bkN BK184 hb; replace BK185 := bkN BK185 hb; replace HB := Aside0.mk (below_step t1_ hb); clear hb ho149; have hnb150 := NB183_184.out; have hnc150 := NB184_183.out; have hnb151 := NB183_185.out; have hnc151 := NB185_183.out; have hcz152_0 := bc0 BK183; have hfz152_0 := bf BK183 0) | ((with_reducible refine gate_builtin (b := .append) (xs := #[.tmp 31, .tmp 33]) rfl ?_); at_builtin; refine Kd.R_append_rows k71 (w0 := w) w.heap.size rfl (.tmp 31) (.tmp 33) 28 71 (.agg #[(.string ⟨#[]⟩), (.string ⟨#[]⟩)]) 32 rfl Try.underlying28 info71 rfl (by decide) (by omega) v190 y189 l0_0 _ _ _ (fun _ => True) (fun _ => False) rfl rfl ?aO ?aR (fun _ _ h => h) (fun _ h => h.elim) ?aF ?aB ?aS ?aL ?_; (case aR => exact cB HR0_0 HB); (case aB => exact t1_); (case aF => exact (fun _ _ => trivial)); (case aO => exact t47_); (case aS => exact (below_size t1_)); (case aL => have := LMc45.out; omega); intro v193 w153 ho hb hg hat; rw [← Ny192.out] at ho; have n0_ := Aside0.mk (blk_grown (g := gb183) (o := .cells #[.slice A0_0 l0_0.length c0_0] 30 (0, 0)) t39_ hg (Kd.R_ne HO191.out BK183.out (by decide))); have n1_ := Aside0.mk (blk_grown (g := gb184) (o := .cells #[.int .i64 a1_0, .string a1_1, .string a1_2, .string a1_3] 65 (0, 0)) t40_ hg (Kd.R_ne HO191.out BK184.out (by decide))); have n2_ := Aside0.mk (blk_grown (g := gb185) (o := .cells #[.slice none 0 0] 30 (0, 0)) t41_ hg (Kd.R_ne HO191.out BK185.out (by decide))); have n3_ := Aside0.mk (hb); have n4_ := Aside0.mk (ho); clear BK183; clear BK184; clear BK185; clear HB; clear HO191; have BK183 := n0_; have BK184 := n1_; have BK185 := n2_; have HB := n3_; have HO194 := n4_; clear n0_ n1_ n2_ n3_ n4_; clear ho hb hg hat; obtain ⟨Ao154, co154, eo154⟩ := Kd.R_slice HO194.out; subst eo154) | ((with_reducible refine gate_dst (N := 7) rfl ?_); refine boxE (N := 7) (cs := #[.slice none 0 0]) (t := 30) (h := ?_); intro gb195 hg w155 hbox hb; replace HO194 := Aside0.mk (Kd.R_below t25_ hb); have BK195 := Aside0.mk (hbox); have GW195 := Aside0.mk ((t15_ : w.heap.size ≤ gb195)); have GE195 := Aside0.mk ((t15_ : w.heap.size ≤ gb195)); replace HB := Aside0.mk (below_step t1_ hb); have NB183_195 := nbL BK183 hg; have NB195_183 := nbG BK183 hg; replace BK183 := bkN BK183 hb; have NB184_195 := nbL BK184 hg; have NB195_184 := nbG BK184 hg; replace BK184 := bkN BK184 hb; have NB185_195 := nbL BK185 hg; have NB195_185 := nbG BK185 hg; replace BK185 := bkN BK185 hb; clear hb hbox hg; have hnb156 := NB195_183.out; have hnc156 := NB183_195.out; have hnb157 := NB195_184.out; have hnc157 := NB184_195.out; have hnb158 := NB195_185.out; have hnc158 := NB185_195.out; have hcz159_0 := bc0 BK195; have hfz159_0 := bf BK195 0; have hnb160 := NB184_185.out; have hnc160 := NB185_184.out; have hcz161_0 := bc0 BK184; have hcz161_1 := bc1 BK184; have hcz161_2 := bc2 BK184; have hcz161_3 := bc3 BK184; have hfz161_0 := bf BK184 0; have hfz161_1 := bf BK184 1; have hfz161_2 := bf BK184 2; have hfz161_3 := bf BK184 3) | ((with_reducible refine gate_callee (f := 56) rfl ?_); refine goesL_ (some 89) rfl rfl Try.func56 (by kernel_rfl) rfl #[.agg #[.slice Ao154 y192.length co154]] rfl t2_ ?_; (with_reducible refine (spec_DiskOk.calls kj3 _ _ y192 true _ ?side1 ?side2 A146.out).mono ?_); (case side1 => refine (Kd.R_reads' (e := 71) (base := w.heap.size) (ok := fun k_ => True) (n := y192.length) (c := co154) ?_).2.2; exact (by (with_reducible repeat (first | apply Kd.R_alloc | apply Kd.R_drewN | apply Kd.R_drew)); exact (Kd.R_mono (Kd.R_far (p := ⟨gb195, 0, none⟩) (Kd.R_types HO194.out BK195.out (by decide)) (fun _ hk => hk.2) (.slice Ao154 y192.length co154)) (fun _ h_ => h_.1)))); (case side2 => exact (Kd.R_reads' HO194.out).2.1); rintro e w162 ⟨rfl, hb⟩; refine ⟨_, rfl, ?_⟩; replace HO194 := Aside0.mk (Kd.R_below (by (with_reducible repeat (first | apply Kd.R_alloc | apply Kd.R_drewN | apply Kd.R_drew)); exact (Kd.R_mono (Kd.R_far (p := ⟨gb195, 0, none⟩) (Kd.R_types HO194.out BK195.out (by decide)) (fun _ hk => hk.2) (.slice Ao154 y192.length co154)) (fun _ h_ => h_.1))) hb); replace BK183 := bkF BK183 NB183_195 hb; replace BK184 := bkF BK184 NB184_195 hb; replace BK185 := bkF BK185 NB185_195 hb; replace BK195 := Aside0.mk (blk_below (g := gb195) (o := .cells #[.slice Ao154 y192.length co154] 30 (0, 0)) (by (with_reducible repeat (first | refine blk_drewN ?_ _ | refine blk_drew ?_ | refine blk_alloc ?_ _)); refine blk_put (cs := #[.slice none 0 0]) ?_ 0 _ rfl; (with_reducible repeat (first | refine blk_drewN ?_ _ | refine blk_drew ?_ | refine blk_alloc ?_ _)); exact BK195.out) hb); replace HB := Aside0.mk (below_step t6_ hb); (try clear hb); (try clear hb2); (try clear hk); (try clear hi); have hcz163_0 := bc0 BK195; have hfz163_0 := bf BK195 0; have hcz164_0 := bc0 BK185; have hfz164_0 := bf BK185 0))
                    refine bodyPost_ret (results_ct rfl _ _ gb185 30 #[.slice Ao154 y192.length co154] (0, 0) _ rfl (by (with_reducible repeat (first | refine blk_drewN ?_ _ | refine blk_drew ?_ | refine blk_alloc ?_ _)); refine blk_put (cs := #[.slice none 0 0]) ?_ 0 _ rfl; (with_reducible repeat (first | refine blk_drewN ?_ _ | refine blk_drew ?_ | refine blk_alloc ?_ _)); exact BK185.out) Try.underlying30 rfl (by kernel_rfl)) rfl ?_
                    exact ⟨_, by first | rfl | (simp [errW_none, errW_some] <;> rfl) | (simp [*, errW_none, errW_some] <;> rfl), by (with_reducible repeat (first | apply Kd.R_alloc | apply Kd.R_drewN | apply Kd.R_drew)); exact Kd.R_mono (Kd.R_far (p := ⟨gb185, 0, none⟩) (Kd.R_types HO194.out BK185.out (by decide)) (fun _ hk => hk.2) (.slice Ao154 y192.length co154)) (fun _ hk => trivial), t6_⟩
                  · replace c147 := Bool.eq_false_iff.mpr c147
                    subst c147
                    have H1 : (some (([] : List (S71)), false)) = some (r1, r2) := by rw [if_neg (show ¬ (false = true) by decide)] at H; exact H
                    clear H
                    have H := H1
                    clear H1
                    simp only [Option.some.injEq, Prod.mk.injEq] at H
                    obtain ⟨rfl, rfl⟩ := H
                    go_wp2_with (first | ((with_reducible refine gate_dst (N := 31) rfl ?_); refine Kd.R_lit k71 _ 71 ?hg (N := 31) ?hd (xs := ([] : List (S71))) (inner := []) (ok := fun _ => True) (okp := fun _ => True) ?hr ?hp (fun _ hk => hk) trivial (Below.refl _ _) (Nat.le_refl _) (by simp) ?_; (case hd => rfl); (case hg => rfl); (case hr => first | (go_simp; done) | (go_simp; rfl)); (case hp => exact (Reps.none _ _)); intro v190 w165 ho166 hb hg_ hnew_; clear hg_ hnew_; (first | rw [← Ny189.out] at ho166 | (simp only [Int.reduceToNat] at ho166; rw [← Ny189.out] at ho166)); have HO191 := Aside0.mk (Kd.R_lower ho166 (below_size t1_)); replace BK183 := bkN BK183 hb; replace BK184 := bkN BK184 hb; replace BK185 := bkN BK185 hb; replace HB := Aside0.mk (below_step t1_ hb); clear hb ho166; have hnb167 := NB183_184.out; have hnc167 := NB184_183.out; have hnb168 := NB183_185.out; have hnc168 := NB185_183.out; have hcz169_0 := bc0 BK183; have hfz169_0 := bf BK183 0) | ((with_reducible refine gate_builtin (b := .append) (xs := #[.tmp 31, .tmp 33]) rfl ?_); at_builtin; refine Kd.R_append_rows k71 (w0 := w) w.heap.size rfl (.tmp 31) (.tmp 33) 28 71 (.agg #[(.string ⟨#[]⟩), (.string ⟨#[]⟩)]) 32 rfl Try.underlying28 info71 rfl (by decide) (by omega) v190 y189 l0_0 _ _ _ (fun _ => True) (fun _ => False) rfl rfl ?aO ?aR (fun _ _ h => h) (fun _ h => h.elim) ?aF ?aB ?aS ?aL ?_; (case aR => exact cB HR0_0 HB); (case aB => exact t1_); (case aF => exact (fun _ _ => trivial)); (case aO => exact t47_); (case aS => exact (below_size t1_)); (case aL => have := LMc45.out; omega); intro v193 w170 ho hb hg hat; rw [← Ny192.out] at ho; have n0_ := Aside0.mk (blk_grown (g := gb183) (o := .cells #[.slice A0_0 l0_0.length c0_0] 30 (0, 0)) t39_ hg (Kd.R_ne HO191.out BK183.out (by decide))); have n1_ := Aside0.mk (blk_grown (g := gb184) (o := .cells #[.int .i64 a1_0, .string a1_1, .string a1_2, .string a1_3] 65 (0, 0)) t40_ hg (Kd.R_ne HO191.out BK184.out (by decide))); have n2_ := Aside0.mk (blk_grown (g := gb185) (o := .cells #[.slice none 0 0] 30 (0, 0)) t41_ hg (Kd.R_ne HO191.out BK185.out (by decide))); have n3_ := Aside0.mk (hb); have n4_ := Aside0.mk (ho); clear BK183; clear BK184; clear BK185; clear HB; clear HO191; have BK183 := n0_; have BK184 := n1_; have BK185 := n2_; have HB := n3_; have HO194 := n4_; clear n0_ n1_ n2_ n3_ n4_; clear ho hb hg hat; obtain ⟨Ao171, co171, eo171⟩ := Kd.R_slice HO194.out; subst eo171) | ((with_reducible refine gate_dst (N := 7) rfl ?_); refine boxE (N := 7) (cs := #[.slice none 0 0]) (t := 30) (h := ?_); intro gb195 hg w172 hbox hb; replace HO194 := Aside0.mk (Kd.R_below t25_ hb); have BK195 := Aside0.mk (hbox); have GW195 := Aside0.mk ((t15_ : w.heap.size ≤ gb195)); have GE195 := Aside0.mk ((t15_ : w.heap.size ≤ gb195)); replace HB := Aside0.mk (below_step t1_ hb); have NB183_195 := nbL BK183 hg; have NB195_183 := nbG BK183 hg; replace BK183 := bkN BK183 hb; have NB184_195 := nbL BK184 hg; have NB195_184 := nbG BK184 hg; replace BK184 := bkN BK184 hb; have NB185_195 := nbL BK185 hg; have NB195_185 := nbG BK185 hg; replace BK185 := bkN BK185 hb; clear hb hbox hg; have hnb173 := NB195_183.out; have hnc173 := NB183_195.out; have hnb174 := NB195_184.out; have hnc174 := NB184_195.out; have hnb175 := NB195_185.out; have hnc175 := NB185_195.out; have hcz176_0 := bc0 BK195; have hfz176_0 := bf BK195 0; have hnb177 := NB184_185.out; have hnc177 := NB185_184.out; have hcz178_0 := bc0 BK184; have hcz178_1 := bc1 BK184; have hcz178_2 := bc2 BK184; have hcz178_3 := bc3 BK184; have hfz178_0 := bf BK184 0; have hfz178_1 := bf BK184 1; have hfz178_2 := bf BK184 2; have hfz178_3 := bf BK184 3) | ((with_reducible refine gate_callee (f := 56) rfl ?_); refine goesL_ (some 89) rfl rfl Try.func56 (by kernel_rfl) rfl #[.agg #[.slice Ao171 y192.length co171]] rfl t2_ ?_; (with_reducible refine (spec_DiskOk.calls kj3 _ _ y192 false _ ?side1 ?side2 A146.out).mono ?_); (case side1 => refine (Kd.R_reads' (e := 71) (base := w.heap.size) (ok := fun k_ => True) (n := y192.length) (c := co171) ?_).2.2; exact (by (with_reducible repeat (first | apply Kd.R_alloc | apply Kd.R_drewN | apply Kd.R_drew)); exact (Kd.R_mono (Kd.R_far (p := ⟨gb195, 0, none⟩) (Kd.R_types HO194.out BK195.out (by decide)) (fun _ hk => hk.2) (.slice Ao171 y192.length co171)) (fun _ h_ => h_.1)))); (case side2 => exact (Kd.R_reads' HO194.out).2.1); rintro e w179 ⟨rfl, hb⟩; refine ⟨_, rfl, ?_⟩; replace HO194 := Aside0.mk (Kd.R_below (by (with_reducible repeat (first | apply Kd.R_alloc | apply Kd.R_drewN | apply Kd.R_drew)); exact (Kd.R_mono (Kd.R_far (p := ⟨gb195, 0, none⟩) (Kd.R_types HO194.out BK195.out (by decide)) (fun _ hk => hk.2) (.slice Ao171 y192.length co171)) (fun _ h_ => h_.1))) hb); replace BK183 := bkF BK183 NB183_195 hb; replace BK184 := bkF BK184 NB184_195 hb; replace BK185 := bkF BK185 NB185_195 hb; replace BK195 := Aside0.mk (blk_below (g := gb195) (o := .cells #[.slice Ao171 y192.length co171] 30 (0, 0)) (by (with_reducible repeat (first | refine blk_drewN ?_ _ | refine blk_drew ?_ | refine blk_alloc ?_ _)); refine blk_put (cs := #[.slice none 0 0]) ?_ 0 _ rfl; (with_reducible repeat (first | refine blk_drewN ?_ _ | refine blk_drew ?_ | refine blk_alloc ?_ _)); exact BK195.out) hb); replace HB := Aside0.mk (below_step t6_ hb); (try clear hb); (try clear hb2); (try clear hk); (try clear hi); have hcz180_0 := bc0 BK185; have hfz180_0 := bf BK185 0))
                    refine bodyPost_ret (results_ct rfl _ _ gb185 30 #[.slice none 0 0] (0, 0) _ rfl (by (with_reducible repeat (first | refine blk_drewN ?_ _ | refine blk_drew ?_ | refine blk_alloc ?_ _)); refine blk_put (cs := #[.slice none 0 0]) ?_ 0 _ rfl; (with_reducible repeat (first | refine blk_drewN ?_ _ | refine blk_drew ?_ | refine blk_alloc ?_ _)); exact BK185.out) Try.underlying30 rfl (by kernel_rfl)) rfl ?_
                    exact ⟨_, by first | rfl | (simp [errW_none, errW_some] <;> rfl) | (simp [*, errW_none, errW_some] <;> rfl), by first | exact Kd.R_nil _ _ _ _ _ | exact Kd.N_nil _ _ _ _ _ | exact Kd.V_nil _ _ _ _ _ | exact Kd.Q_nil _ _ _ _ _ | exact Kd.S_nil _ _ _ _ _, t6_⟩
                · rw [if_neg c145] at H
                  have c145b0 : (a1_2.toList == a1_1.toList) = false := beq_eq_false_iff_ne.mpr c145
                  have c145b1 : (a1_2.toList != a1_1.toList) = true := bne_iff_ne.mpr c145
                  replace H := Option.bind_eq_some_iff.mp H
                  obtain ⟨t206, A1810, H⟩ := H
                  replace H : (if 0 ≤ t186 then (if t186 < (l0_0.length : Int) then ((spec_l03Put.f kj3 t206 a1_2 ((rd_T71 l0_0 t186).f1)).bind fun t210 => ((spec_DiskOk.f kj3 t210).bind fun t213 => (if t213 = true then (some (t210, true)) else (some (([] : List (S71)), false))))) else (none)) else (none)) = some (r1, r2) := H
                  have A181 := Aside0.mk A1810
                  clear A1810
                  by_cases c182 : 0 ≤ t186
                  · rw [if_pos c182] at H
                    have c182b0 : decide (0 ≤ t186) = true := decide_eq_true c182
                    clear c182
                    by_cases c183 : t186 < (l0_0.length : Int)
                    · rw [if_pos c183] at H
                      have c183b0 : decide (t186 < (l0_0.length : Int)) = true := decide_eq_true c183
                      clear c183
                      replace H := Option.bind_eq_some_iff.mp H
                      obtain ⟨t210, A1840, H⟩ := H
                      replace H : ((spec_DiskOk.f kj3 t210).bind fun t213 => (if t213 = true then (some (t210, true)) else (some (([] : List (S71)), false)))) = some (r1, r2) := H
                      have A184 := Aside0.mk A1840
                      clear A1840
                      replace H := Option.bind_eq_some_iff.mp H
                      obtain ⟨t213, A1850, H⟩ := H
                      replace H : (if t213 = true then (some (t210, true)) else (some (([] : List (S71)), false))) = some (r1, r2) := H
                      have A185 := Aside0.mk A1850
                      clear A1850
                      by_cases c186 : t213 = true
                      · subst c186
                        have H1 : (some (t210, true)) = some (r1, r2) := by rw [if_pos rfl] at H; exact H
                        clear H
                        have H := H1
                        clear H1
                        simp only [Option.some.injEq, Prod.mk.injEq] at H
                        obtain ⟨rfl, rfl⟩ := H
                        try go_wp2_with (first | ((with_reducible refine gate_dst (N := 31) rfl ?_); refine Kd.R_lit k71 _ 71 ?hg (N := 31) ?hd (xs := ([] : List (S71))) (inner := []) (ok := fun _ => True) (okp := fun _ => True) ?hr ?hp (fun _ hk => hk) trivial (Below.refl _ _) (Nat.le_refl _) (by simp) ?_; (case hd => rfl); (case hg => rfl); (case hr => first | (go_simp; done) | (go_simp; rfl)); (case hp => exact (Reps.none _ _)); intro v190 w187 ho188 hb hg_ hnew_; clear hg_ hnew_; (first | rw [← Ny189.out] at ho188 | (simp only [Int.reduceToNat] at ho188; rw [← Ny189.out] at ho188)); have HO191 := Aside0.mk (Kd.R_lower ho188 (below_size t1_)); replace BK183 := bkN BK183 hb; replace BK184 := bkN BK184 hb; replace BK185 := bkN BK185 hb; replace HB := Aside0.mk (below_step t1_ hb); clear hb ho188; have hnb189 := NB183_184.out; have hnc189 := NB184_183.out; have hnb190 := NB183_185.out; have hnc190 := NB185_183.out; have hcz191_0 := bc0 BK183; have hfz191_0 := bf BK183 0) | ((with_reducible refine gate_builtin (b := .append) (xs := #[.tmp 31, .tmp 33]) rfl ?_); at_builtin; refine Kd.R_append_rows k71 (w0 := w) w.heap.size rfl (.tmp 31) (.tmp 33) 28 71 (.agg #[(.string ⟨#[]⟩), (.string ⟨#[]⟩)]) 32 rfl Try.underlying28 info71 rfl (by decide) (by omega) v190 y189 l0_0 _ _ _ (fun _ => True) (fun _ => False) rfl rfl ?aO ?aR (fun _ _ h => h) (fun _ h => h.elim) ?aF ?aB ?aS ?aL ?_; (case aR => exact cB HR0_0 HB); (case aB => exact t1_); (case aF => exact (fun _ _ => trivial)); (case aO => exact t47_); (case aS => exact (below_size t1_)); (case aL => have := LMc45.out; omega); intro v193 w192 ho hb hg hat; rw [← Ny192.out] at ho; have n0_ := Aside0.mk (blk_grown (g := gb183) (o := .cells #[.slice A0_0 l0_0.length c0_0] 30 (0, 0)) t39_ hg (Kd.R_ne HO191.out BK183.out (by decide))); have n1_ := Aside0.mk (blk_grown (g := gb184) (o := .cells #[.int .i64 a1_0, .string a1_1, .string a1_2, .string a1_3] 65 (0, 0)) t40_ hg (Kd.R_ne HO191.out BK184.out (by decide))); have n2_ := Aside0.mk (blk_grown (g := gb185) (o := .cells #[.slice none 0 0] 30 (0, 0)) t41_ hg (Kd.R_ne HO191.out BK185.out (by decide))); have n3_ := Aside0.mk (hb); have n4_ := Aside0.mk (ho); clear BK183; clear BK184; clear BK185; clear HB; clear HO191; have BK183 := n0_; have BK184 := n1_; have BK185 := n2_; have HB := n3_; have HO194 := n4_; clear n0_ n1_ n2_ n3_ n4_; clear ho hb hg hat; obtain ⟨Ao193, co193, eo193⟩ := Kd.R_slice HO194.out; subst eo193) | ((with_reducible refine gate_dst (N := 7) rfl ?_); refine boxE (N := 7) (cs := #[.slice none 0 0]) (t := 30) (h := ?_); intro gb195 hg w194 hbox hb; replace HO194 := Aside0.mk (Kd.R_below t25_ hb); have BK195 := Aside0.mk (hbox); have GW195 := Aside0.mk ((t15_ : w.heap.size ≤ gb195)); have GE195 := Aside0.mk ((t15_ : w.heap.size ≤ gb195)); replace HB := Aside0.mk (below_step t1_ hb); have NB183_195 := nbL BK183 hg; have NB195_183 := nbG BK183 hg; replace BK183 := bkN BK183 hb; have NB184_195 := nbL BK184 hg; have NB195_184 := nbG BK184 hg; replace BK184 := bkN BK184 hb; have NB185_195 := nbL BK185 hg; have NB195_185 := nbG BK185 hg; replace BK185 := bkN BK185 hb; clear hb hbox hg; have hnb195 := NB195_183.out; have hnc195 := NB183_195.out; have hnb196 := NB195_184.out; have hnc196 := NB184_195.out; have hnb197 := NB195_185.out; have hnc197 := NB185_195.out; have hcz198_0 := bc0 BK195; have hfz198_0 := bf BK195 0; have hnb199 := NB184_185.out; have hnc199 := NB185_184.out; have hcz200_0 := bc0 BK184; have hcz200_1 := bc1 BK184; have hcz200_2 := bc2 BK184; have hcz200_3 := bc3 BK184; have hfz200_0 := bf BK184 0; have hfz200_1 := bf BK184 1; have hfz200_2 := bf BK184 2; have hfz200_3 := bf BK184 3))
                        have n0_ : Aside0 (Kd.R k71 71 (w194.setCell ⟨gb195, 0, none⟩ (.slice Ao193 y192.length co193)) w.heap.size (fun _ => True) (.slice Ao193 y192.length co193) y192) := ⟨by (with_reducible repeat (first | apply Kd.R_alloc | apply Kd.R_drewN | apply Kd.R_drew)); exact Kd.R_mono (Kd.R_far (p := ⟨gb195, 0, none⟩) (Kd.R_types HO194.out BK195.out (by decide)) (fun _ hk => hk.2) (.slice Ao193 y192.length co193)) (fun _ hk => trivial)⟩
                        have n1_ : Aside0 ((w194.setCell ⟨gb195, 0, none⟩ (.slice Ao193 y192.length co193)).heap[gb183]? = some (.cells #[.slice A0_0 l0_0.length c0_0] 30 (0, 0))) := ⟨by (with_reducible repeat (first | refine blk_drewN ?_ _ | refine blk_drew ?_ | refine blk_alloc ?_ _)); refine blk_far ?_ NB183_195.out _; (with_reducible repeat (first | refine blk_drewN ?_ _ | refine blk_drew ?_ | refine blk_alloc ?_ _)); exact BK183.out⟩
                        have n2_ : Aside0 ((w194.setCell ⟨gb195, 0, none⟩ (.slice Ao193 y192.length co193)).heap[gb184]? = some (.cells #[.int .i64 a1_0, .string a1_1, .string a1_2, .string a1_3] 65 (0, 0))) := ⟨by (with_reducible repeat (first | refine blk_drewN ?_ _ | refine blk_drew ?_ | refine blk_alloc ?_ _)); refine blk_far ?_ NB184_195.out _; (with_reducible repeat (first | refine blk_drewN ?_ _ | refine blk_drew ?_ | refine blk_alloc ?_ _)); exact BK184.out⟩
                        have n3_ : Aside0 ((w194.setCell ⟨gb195, 0, none⟩ (.slice Ao193 y192.length co193)).heap[gb185]? = some (.cells #[.slice none 0 0] 30 (0, 0))) := ⟨by (with_reducible repeat (first | refine blk_drewN ?_ _ | refine blk_drew ?_ | refine blk_alloc ?_ _)); refine blk_far ?_ NB185_195.out _; (with_reducible repeat (first | refine blk_drewN ?_ _ | refine blk_drew ?_ | refine blk_alloc ?_ _)); exact BK185.out⟩
                        have n4_ : Aside0 ((w194.setCell ⟨gb195, 0, none⟩ (.slice Ao193 y192.length co193)).heap[gb195]? = some (.cells #[.slice Ao193 y192.length co193] 30 (0, 0))) := ⟨by (with_reducible repeat (first | refine blk_drewN ?_ _ | refine blk_drew ?_ | refine blk_alloc ?_ _)); refine blk_put (cs := #[.slice none 0 0]) ?_ 0 _ rfl; (with_reducible repeat (first | refine blk_drewN ?_ _ | refine blk_drew ?_ | refine blk_alloc ?_ _)); exact BK195.out⟩
                        have n5_ : Aside0 (Below w.heap.size w (w194.setCell ⟨gb195, 0, none⟩ (.slice Ao193 y192.length co193))) := ⟨t6_⟩
                        (try clear HO194)
                        (try clear BK183)
                        (try clear BK184)
                        (try clear BK185)
                        (try clear BK195)
                        (try clear HB)
                        generalize (w194.setCell ⟨gb195, 0, none⟩ (.slice Ao193 y192.length co193)) = w201 at n0_ n1_ n2_ n3_ n4_ n5_ ⊢
                        have HO194 := n0_
                        have BK183 := n1_
                        have BK184 := n2_
                        have BK185 := n3_
                        have BK195 := n4_
                        have HB := n5_
                        clear n0_ n1_ n2_ n3_ n4_ n5_
                        replace HO194 := Aside0.mk (Kd.R_drew HO194.out)
                        replace BK183 := Aside0.mk (blk_drew BK183.out)
                        replace BK184 := Aside0.mk (blk_drew BK184.out)
                        replace BK185 := Aside0.mk (blk_drew BK185.out)
                        replace BK195 := Aside0.mk (blk_drew BK195.out)
                        replace HB := Aside0.mk (below_drew1 HB.out)
                        have p209 : 0 ≤ (t186 : Int) := of_decide_eq_true t13_
                        have q209 : t186 < (l0_0.length : Int) := of_decide_eq_true t13_
                        obtain ⟨ad209, e209, hx209_0, hx209_1⟩ := at_T71 HR0_0.out t186 p209 q209
                        have hw209_1 := hx209_1
                        have hw209_0 := hx209_0
                        cases e209
                        replace hx209_0 := (HB.out.cell (World.block_lt_of_cell? w _ hx209_0)).trans hx209_0
                        replace hx209_1 := (HB.out.cell (World.block_lt_of_cell? w _ hx209_1)).trans hx209_1
                        replace p209 := eq_true p209
                        replace q209 := eq_true q209
                        refine start_ (n := 15) (S := fun w' => w'.cell? ⟨gb183, 0, none⟩ = some (.slice (some ad209) l0_0.length c0_0) ∧ w'.cell? ⟨gb184, 0, none⟩ = some (.int .i64 a1_0) ∧ w'.cell? ⟨gb184, 1, none⟩ = some (.string a1_1) ∧ w'.cell? ⟨gb184, 2, none⟩ = some (.string a1_2) ∧ w'.cell? ⟨gb184, 3, none⟩ = some (.string a1_3) ∧ w'.cell? (ad209.add ((t186).toNat * 2)) = some (.string ((rd_T71 l0_0 t186).f0)) ∧ w'.cell? ⟨(ad209.add ((t186).toNat * 2)).block, (ad209.add ((t186).toNat * 2)).off + 1, none⟩ = some (.string ((rd_T71 l0_0 t186).f1))) (ds := []) #[false, false, false, false, false, false, false, false, false, false, false, false, false, false, false] (by kernel_rfl) rfl rfl ⟨bc0 BK183, bc0 BK184, bc1 BK184, bc2 BK184, bc3 BK184, ((HB.out.cell (World.block_lt_of_cell? w _ hw209_0)).trans hw209_0), ((HB.out.cell (World.block_lt_of_cell? w _ hw209_1)).trans hw209_1)⟩ (fun hHeld => ?_); refine with_tabW spec_PutRaw.tab12 spec_PutRaw.bits12 (fun HT_ HW_ => ?_)
                        generalize w201.drew = w202 at HO194 BK183 BK184 BK185 BK195 HB hx209_0 hx209_1 hHeld ⊢
                        refine pure_ (i := 1) (N := some 69) (v := ?_) (a' := ?_) #[false, true, false, false, false, false, false, false, false, false, false, false, false, false, false] rfl rfl (any_of HT_.out (by kernel_rfl)) (fun _ _ _ h => h) (Or.inl ⟨by rfl, ?_⟩) ?_ ?_
                        rotate_left
                        · intro w'
                          go_simp
                          with_reducible rfl
                        rotate_left
                        · simp only [Act.put, List.setIfInBounds_toArray, List.set_cons_zero, List.set_cons_succ, i64_w, i32_w]
                          rfl
                        refine pure_ (i := 4) (N := some 72) (v := ?_) (a' := ?_) #[false, true, false, false, true, false, false, false, false, false, false, false, false, false, false] rfl rfl (any_of HT_.out (by kernel_rfl)) (fun _ _ _ h => h) (Or.inl ⟨by rfl, ?_⟩) ?_ ?_
                        rotate_left
                        · intro w'
                          go_simp
                          with_reducible rfl
                        rotate_left
                        · simp only [Act.put, List.setIfInBounds_toArray, List.set_cons_zero, List.set_cons_succ, i64_w, i32_w]
                          rfl
                        refine pure_ (i := 6) (N := some 74) (v := ?_) (a' := ?_) #[false, true, false, false, true, false, true, false, false, false, false, false, false, false, false] rfl rfl (any_of HT_.out (by kernel_rfl)) (fun _ _ _ h => h) (Or.inl ⟨by rfl, ?_⟩) ?_ ?_
                        rotate_left
                        · intro w'
                          go_simp
                          with_reducible rfl
                        rotate_left
                        · simp only [Act.put, List.setIfInBounds_toArray, List.set_cons_zero, List.set_cons_succ, i64_w, i32_w]
                          rfl
                        refine pure_ (i := 8) (N := some 76) (v := ?_) (a' := ?_) #[false, true, false, false, true, false, true, false, true, false, false, false, false, false, false] rfl rfl (any_of HT_.out (by kernel_rfl)) (fun _ _ _ h => h) (Or.inl ⟨by rfl, ?_⟩) ?_ ?_
                        rotate_left
                        · intro w'
                          go_simp
                          with_reducible rfl
                        rotate_left
                        · simp only [Act.put, List.setIfInBounds_toArray, List.set_cons_zero, List.set_cons_succ, i64_w, i32_w]
                          rfl
                        refine take_ (i := 0) (N := some 68) (v := ?_) (a' := ?_) #[true, true, false, false, true, false, true, false, true, false, false, false, false, false, false] rfl rfl (take_ofW HT_.out HW_.out (by kernel_rfl)) (fun _ _ _ h => h) (Or.inl ⟨by rfl, ?_⟩) hHeld ?_ ?_
                        rotate_left
                        · rintro w' ⟨s0, s1, s2, s3, s4, s5, s6⟩
                          go_simp
                          with_reducible rfl
                        rotate_left
                        · simp only [Act.put, List.setIfInBounds_toArray, List.set_cons_zero, List.set_cons_succ, i64_w, i32_w]
                          rfl
                        refine take_ (i := 2) (N := some 70) (v := ?_) (a' := ?_) #[true, true, true, false, true, false, true, false, true, false, false, false, false, false, false] rfl rfl (take_ofW HT_.out HW_.out (by kernel_rfl)) (fun _ _ _ h => h) (Or.inl ⟨by rfl, ?_⟩) hHeld ?_ ?_
                        rotate_left
                        · rintro w' ⟨s0, s1, s2, s3, s4, s5, s6⟩
                          go_simp
                          with_reducible rfl
                        rotate_left
                        · simp only [Act.put, List.setIfInBounds_toArray, List.set_cons_zero, List.set_cons_succ, i64_w, i32_w]
                          rfl
                        refine take_ (i := 5) (N := some 73) (v := ?_) (a' := ?_) #[true, true, true, false, true, true, true, false, true, false, false, false, false, false, false] rfl rfl (take_ofW HT_.out HW_.out (by kernel_rfl)) (fun _ _ _ h => h) (Or.inl ⟨by rfl, ?_⟩) hHeld ?_ ?_
                        rotate_left
                        · rintro w' ⟨s0, s1, s2, s3, s4, s5, s6⟩
                          go_simp
                          with_reducible rfl
                        rotate_left
                        · simp only [Act.put, List.setIfInBounds_toArray, List.set_cons_zero, List.set_cons_succ, i64_w, i32_w]
                          rfl
                        refine take_ (i := 7) (N := some 75) (v := ?_) (a' := ?_) #[true, true, true, false, true, true, true, true, true, false, false, false, false, false, false] rfl rfl (take_ofW HT_.out HW_.out (by kernel_rfl)) (fun _ _ _ h => h) (Or.inl ⟨by rfl, ?_⟩) hHeld ?_ ?_
                        rotate_left
                        · rintro w' ⟨s0, s1, s2, s3, s4, s5, s6⟩
                          go_simp
                          with_reducible rfl
                        rotate_left
                        · simp only [Act.put, List.setIfInBounds_toArray, List.set_cons_zero, List.set_cons_succ, i64_w, i32_w]
                          rfl
                        refine pure_ (i := 9) (N := some 77) (v := ?_) (a' := ?_) #[true, true, true, false, true, true, true, true, true, true, false, false, false, false, false] rfl rfl (any_of HT_.out (by kernel_rfl)) (fun _ _ _ h => h) (Or.inl ⟨by rfl, ?_⟩) ?_ ?_
                        rotate_left
                        · intro w'
                          go_simp
                          with_reducible rfl
                        rotate_left
                        · simp only [Act.put, List.setIfInBounds_toArray, List.set_cons_zero, List.set_cons_succ, i64_w, i32_w]
                          rfl
                        refine pure_ (i := 10) (N := some 78) (v := ?_) (a' := ?_) #[true, true, true, false, true, true, true, true, true, true, true, false, false, false, false] rfl rfl (any_of HT_.out (by kernel_rfl)) (fun _ _ _ h => h) (Or.inl ⟨by rfl, ?_⟩) ?_ ?_
                        rotate_left
                        · intro w'
                          go_simp
                          with_reducible rfl
                        rotate_left
                        · simp only [Act.put, List.setIfInBounds_toArray, List.set_cons_zero, List.set_cons_succ, i64_w, i32_w]
                          rfl
                        refine take_ (i := 11) (N := some 79) (v := ?_) (a' := ?_) #[true, true, true, false, true, true, true, true, true, true, true, true, false, false, false] rfl rfl (take_ofW HT_.out HW_.out (by kernel_rfl)) (fun _ _ _ h => h) (Or.inl ⟨by rfl, ?_⟩) hHeld ?_ ?_
                        rotate_left
                        · rintro w' ⟨s0, s1, s2, s3, s4, s5, s6⟩
                          go_simp
                          with_reducible rfl
                        rotate_left
                        · simp only [Act.put, List.setIfInBounds_toArray, List.set_cons_zero, List.set_cons_succ, i64_w, i32_w]
                          rfl
                        refine pure_ (i := 12) (N := some 80) (v := ?_) (a' := ?_) #[true, true, true, false, true, true, true, true, true, true, true, true, true, false, false] rfl rfl (any_of HT_.out (by kernel_rfl)) (fun _ _ _ h => h) (Or.inl ⟨by rfl, ?_⟩) ?_ ?_
                        rotate_left
                        · intro w'
                          go_simp
                          with_reducible rfl
                        rotate_left
                        · simp only [Act.put, List.setIfInBounds_toArray, List.set_cons_zero, List.set_cons_succ, i64_w, i32_w]
                          rfl
                        refine one_ (i := 3) (N := some 71) #[true, true, true, true, true, true, true, true, true, true, true, true, true, false, false] rfl rfl (one_of HT_.out (by kernel_rfl)) (by decide) (fun K hK => ?_)
                        refine goes_ Try.func88 (by kernel_rfl) rfl #[.agg #[.slice (some ad209) l0_0.length c0_0], .string a1_1] (by rfl) rfl rfl t2_ ?_
                        with_reducible refine (spec_l03Drop.calls kj3 _ _ l0_0 a1_1 t206 _ ?side1 ?side2 A181.out).mono ?_
                        (case side1 => exact cB HR0_0 HB)
                        (case side2 => exact HC0_0.out)
                        rintro e w203 ⟨v207, rfl, ho0, hb⟩
                        refine ⟨_, rfl, ?_⟩
                        have HO208 := Aside0.mk (Kd.R_lower (Kd.R_new' ho0 (Kd.R_lt t25_)) (below_size t6_))
                        replace HO194 := Aside0.mk (Kd.R_elder' t25_ (Kd.R_base ho0) hb)
                        replace BK183 := bkN BK183 hb
                        replace BK184 := bkN BK184 hb
                        replace BK185 := bkN BK185 hb
                        replace BK195 := bkN BK195 hb
                        replace HB := Aside0.mk (below_step t6_ hb)
                        (try clear hb)
                        (try clear hb2)
                        (try clear hk)
                        (try clear hi)
                        (try clear ho0)
                        obtain ⟨Ao204, co204, eo204⟩ := Kd.R_slice HO208.out
                        (first | subst eo204 | (injection eo204 with f1_ f2_ f3_; have f4_ := f1_.symm; have f5_ := f3_.symm; clear f1_ f2_ f3_; subst f4_; subst f5_))
                        refine hK.out _ _ ⟨bc0 BK183, bc0 BK184, bc1 BK184, bc2 BK184, bc3 BK184, ((HB.out.cell (World.block_lt_of_cell? w _ hw209_0)).trans hw209_0), ((HB.out.cell (World.block_lt_of_cell? w _ hw209_1)).trans hw209_1)⟩ (fun hHeld => ?_)
                        clear hK K
                        refine norm_ (a' := ?_) ?_ ?_
                        rotate_left
                        · show Act.put _ (some 71) _ = _
                          simp only [Act.put, List.setIfInBounds_toArray, List.set_cons_zero, List.set_cons_succ, i64_w, i32_w]
                          rfl
                        refine one_ (i := 13) (N := some 81) #[true, true, true, true, true, true, true, true, true, true, true, true, true, true, false] rfl rfl (one_of HT_.out (by kernel_rfl)) (by decide) (fun K hK => ?_)
                        refine goes_ Try.func79 (by kernel_rfl) rfl #[.agg #[.slice Ao204 t206.length co204], .agg #[.string a1_2, .string ((rd_T71 l0_0 t186).f1)]] (by rfl) rfl rfl t2_ ?_
                        with_reducible refine (spec_l03Put.calls kj3 _ _ t206 a1_2 ((rd_T71 l0_0 t186).f1) t210 _ ?side1 ?side2 A184.out).mono ?_
                        (case side1 => repeat (first | exact (Kd.R_reads' HO208.out).2.2 | (with_reducible refine Kd.C_alloc ?_ _) | (with_reducible refine Kd.C_drewN ?_ _) | (with_reducible refine Kd.C_drew ?_)))
                        (case side2 => exact (Kd.R_reads' HO208.out).2.1)
                        rintro e w205 ⟨v211, rfl, ho0, hb⟩
                        refine ⟨_, rfl, ?_⟩
                        have HO212 := Aside0.mk (Kd.R_lower (Kd.R_new' (Kd.R_new' ho0 (Kd.R_lt t25_)) (Kd.R_lt t70_)) (below_size t6_))
                        replace HO194 := Aside0.mk (Kd.R_elder' t25_ (Kd.R_base ho0) hb)
                        replace HO208 := Aside0.mk (Kd.R_elder' t70_ (Kd.R_base ho0) hb)
                        replace BK183 := bkN BK183 hb
                        replace BK184 := bkN BK184 hb
                        replace BK185 := bkN BK185 hb
                        replace BK195 := bkN BK195 hb
                        replace HB := Aside0.mk (below_step t6_ hb)
                        (try clear hb)
                        (try clear hb2)
                        (try clear hk)
                        (try clear hi)
                        (try clear ho0)
                        obtain ⟨Ao206, co206, eo206⟩ := Kd.R_slice HO212.out
                        (first | subst eo206 | (injection eo206 with f1_ f2_ f3_; have f4_ := f1_.symm; have f5_ := f3_.symm; clear f1_ f2_ f3_; subst f4_; subst f5_))
                        refine hK.out _ _ ⟨bc0 BK183, bc0 BK184, bc1 BK184, bc2 BK184, bc3 BK184, ((HB.out.cell (World.block_lt_of_cell? w _ hw209_0)).trans hw209_0), ((HB.out.cell (World.block_lt_of_cell? w _ hw209_1)).trans hw209_1)⟩ (fun hHeld => ?_)
                        clear hK K
                        refine norm_ (a' := ?_) ?_ ?_
                        rotate_left
                        · show Act.put _ (some 81) _ = _
                          simp only [Act.put, List.setIfInBounds_toArray, List.set_cons_zero, List.set_cons_succ, i64_w, i32_w]
                          rfl
                        refine one_ (i := 14) (N := none) #[true, true, true, true, true, true, true, true, true, true, true, true, true, true, true] rfl rfl (one_of HT_.out (by kernel_rfl)) (by decide) (fun K hK => ?_)
                        have hs207 : w205.cell? ⟨gb195, 0, none⟩ = some (.slice Ao193 y192.length co193) := bc0 BK195
                        have hfs207 := bf BK195 0
                        have hns207_0 := NB183_195.out
                        have hns207_1 := NB184_195.out
                        have hns207_2 := NB185_195.out
                        have hms207_0 := NB195_183.out
                        have hms207_1 := NB195_184.out
                        have hms207_2 := NB195_185.out
                        refine skip_ (w1 := ?_) (by rfl) rfl ?_ ?_
                        rotate_left
                        · go_simp
                          rfl
                        refine hK.out _ _ ⟨((cell_far (p := ⟨gb195, _, none⟩) NB183_195.out _).trans (hHeld.1)), ((cell_far (p := ⟨gb195, _, none⟩) NB184_195.out _).trans (hHeld.2.1)), ((cell_far (p := ⟨gb195, _, none⟩) NB184_195.out _).trans (hHeld.2.2.1)), ((cell_far (p := ⟨gb195, _, none⟩) NB184_195.out _).trans (hHeld.2.2.2.1)), ((cell_far (p := ⟨gb195, _, none⟩) NB184_195.out _).trans (hHeld.2.2.2.2.1)), ((cell_far (p := ⟨gb195, _, none⟩) (by first | exact Nat.ne_of_lt (Nat.lt_of_lt_of_le (by have := World.block_lt_of_cell? _ _ hw209_0; first | rwa [add_block] at this | exact this) GW195.out) | (rw [add_block]; exact Nat.ne_of_lt (Nat.lt_of_lt_of_le (by have := World.block_lt_of_cell? _ _ hw209_0; first | rwa [add_block] at this | exact this) GW195.out)) | (show (Addr.add _ _).block ≠ _; rw [add_block]; exact Nat.ne_of_lt (Nat.lt_of_lt_of_le (by have := World.block_lt_of_cell? _ _ hw209_0; first | rwa [add_block] at this | exact this) GW195.out)) | (dsimp only; exact Nat.ne_of_lt (Nat.lt_of_lt_of_le (by have := World.block_lt_of_cell? _ _ hw209_0; first | rwa [add_block] at this | exact this) GW195.out))) _).trans (hHeld.2.2.2.2.2.1)), ((cell_far (p := ⟨gb195, _, none⟩) (by first | exact Nat.ne_of_lt (Nat.lt_of_lt_of_le (by have := World.block_lt_of_cell? _ _ hw209_1; first | rwa [add_block] at this | exact this) GW195.out) | (rw [add_block]; exact Nat.ne_of_lt (Nat.lt_of_lt_of_le (by have := World.block_lt_of_cell? _ _ hw209_1; first | rwa [add_block] at this | exact this) GW195.out)) | (show (Addr.add _ _).block ≠ _; rw [add_block]; exact Nat.ne_of_lt (Nat.lt_of_lt_of_le (by have := World.block_lt_of_cell? _ _ hw209_1; first | rwa [add_block] at this | exact this) GW195.out)) | (dsimp only; exact Nat.ne_of_lt (Nat.lt_of_lt_of_le (by have := World.block_lt_of_cell? _ _ hw209_1; first | rwa [add_block] at this | exact this) GW195.out))) _).trans (hHeld.2.2.2.2.2.2))⟩ (fun hHeld => ?_)
                        clear hK K
                        refine done_ (done_of HT_.out (by kernel_rfl)) ?_
                        have hcz208_0 := bc0 BK195
                        have hfz208_0 := bf BK195 0
                        try go_wp2_with (first | ((with_reducible refine gate_callee (f := 56) rfl ?_); refine goesL_ (some 89) rfl rfl Try.func56 (by kernel_rfl) rfl #[.agg #[.slice Ao206 t210.length co206]] rfl t2_ ?_; (with_reducible refine (spec_DiskOk.calls kj3 _ _ t210 true _ ?side1 ?side2 A185.out).mono ?_); (case side1 => refine (Kd.R_reads' (e := 71) (base := w.heap.size) (ok := fun k_ => ((True ∧ some k_ ≠ (.slice Ao193 y192.length co193 : Value).ownBlock) ∧ some k_ ≠ (.slice Ao204 t206.length co204 : Value).ownBlock)) (n := t210.length) (c := co206) ?_).2.2; exact (by (with_reducible repeat (first | apply Kd.R_alloc | apply Kd.R_drewN | apply Kd.R_drew)); exact (Kd.R_mono (Kd.R_far (p := ⟨gb195, 0, none⟩) (Kd.R_types HO212.out BK195.out (by decide)) (fun _ hk => hk.2) (.slice Ao206 t210.length co206)) (fun _ h_ => h_.1)))); (case side2 => exact (Kd.R_reads' HO212.out).2.1); rintro e w209 ⟨rfl, hb⟩; refine ⟨_, rfl, ?_⟩; replace HO194 := Aside0.mk (Kd.R_below (by (with_reducible repeat (first | apply Kd.R_alloc | apply Kd.R_drewN | apply Kd.R_drew)); exact (Kd.R_mono (Kd.R_far (p := ⟨gb195, 0, none⟩) (Kd.R_types HO194.out BK195.out (by decide)) (fun _ hk => hk.2) (.slice Ao206 t210.length co206)) (fun _ h_ => h_.1))) hb); replace HO208 := Aside0.mk (Kd.R_below (by (with_reducible repeat (first | apply Kd.R_alloc | apply Kd.R_drewN | apply Kd.R_drew)); exact (Kd.R_mono (Kd.R_far (p := ⟨gb195, 0, none⟩) (Kd.R_types HO208.out BK195.out (by decide)) (fun _ hk => hk.2) (.slice Ao206 t210.length co206)) (fun _ h_ => h_.1))) hb); replace HO212 := Aside0.mk (Kd.R_below (by (with_reducible repeat (first | apply Kd.R_alloc | apply Kd.R_drewN | apply Kd.R_drew)); exact (Kd.R_mono (Kd.R_far (p := ⟨gb195, 0, none⟩) (Kd.R_types HO212.out BK195.out (by decide)) (fun _ hk => hk.2) (.slice Ao206 t210.length co206)) (fun _ h_ => h_.1))) hb); replace BK183 := bkF BK183 NB183_195 hb; replace BK184 := bkF BK184 NB184_195 hb; replace BK185 := bkF BK185 NB185_195 hb; replace BK195 := Aside0.mk (blk_below (g := gb195) (o := .cells #[.slice Ao206 t210.length co206] 30 (0, 0)) (by (with_reducible repeat (first | refine blk_drewN ?_ _ | refine blk_drew ?_ | refine blk_alloc ?_ _)); refine blk_put (cs := #[.slice Ao193 y192.length co193]) ?_ 0 _ rfl; (with_reducible repeat (first | refine blk_drewN ?_ _ | refine blk_drew ?_ | refine blk_alloc ?_ _)); exact BK195.out) hb); replace HB := Aside0.mk (below_step t6_ hb); (try clear hb); (try clear hb2); (try clear hk); (try clear hi); have hcz210_0 := bc0 BK195; have hfz210_0 := bf BK195 0; have hcz211_0 := bc0 BK185; have hfz211_0 := bf BK185 0))
                        refine bodyPost_ret (results_ct rfl _ _ gb185 30 #[.slice Ao206 t210.length co206] (0, 0) _ rfl (by (with_reducible repeat (first | refine blk_drewN ?_ _ | refine blk_drew ?_ | refine blk_alloc ?_ _)); refine blk_put (cs := #[.slice none 0 0]) ?_ 0 _ rfl; (with_reducible repeat (first | refine blk_drewN ?_ _ | refine blk_drew ?_ | refine blk_alloc ?_ _)); exact BK185.out) Try.underlying30 rfl (by kernel_rfl)) rfl ?_
                        exact ⟨_, by first | rfl | (simp [errW_none, errW_some] <;> rfl) | (simp [*, errW_none, errW_some] <;> rfl), by (with_reducible repeat (first | apply Kd.R_alloc | apply Kd.R_drewN | apply Kd.R_drew)); exact Kd.R_mono (Kd.R_far (p := ⟨gb185, 0, none⟩) (Kd.R_types HO212.out BK185.out (by decide)) (fun _ hk => hk.2) (.slice Ao206 t210.length co206)) (fun _ hk => trivial), t6_⟩
                      · replace c186 := Bool.eq_false_iff.mpr c186
                        subst c186
                        have H1 : (some (([] : List (S71)), false)) = some (r1, r2) := by rw [if_neg (show ¬ (false = true) by decide)] at H; exact H
                        clear H
                        have H := H1
                        clear H1
                        simp only [Option.some.injEq, Prod.mk.injEq] at H
                        obtain ⟨rfl, rfl⟩ := H
                        try go_wp2_with (first | ((with_reducible refine gate_dst (N := 31) rfl ?_); refine Kd.R_lit k71 _ 71 ?hg (N := 31) ?hd (xs := ([] : List (S71))) (inner := []) (ok := fun _ => True) (okp := fun _ => True) ?hr ?hp (fun _ hk => hk) trivial (Below.refl _ _) (Nat.le_refl _) (by simp) ?_; (case hd => rfl); (case hg => rfl); (case hr => first | (go_simp; done) | (go_simp; rfl)); (case hp => exact (Reps.none _ _)); intro v190 w212 ho213 hb hg_ hnew_; clear hg_ hnew_; (first | rw [← Ny189.out] at ho213 | (simp only [Int.reduceToNat] at ho213; rw [← Ny189.out] at ho213)); have HO191 := Aside0.mk (Kd.R_lower ho213 (below_size t1_)); replace BK183 := bkN BK183 hb; replace BK184 := bkN BK184 hb; replace BK185 := bkN BK185 hb; replace HB := Aside0.mk (below_step t1_ hb); clear hb ho213; have hnb214 := NB183_184.out; have hnc214 := NB184_183.out; have hnb215 := NB183_185.out; have hnc215 := NB185_183.out; have hcz216_0 := bc0 BK183; have hfz216_0 := bf BK183 0) | ((with_reducible refine gate_builtin (b := .append) (xs := #[.tmp 31, .tmp 33]) rfl ?_); at_builtin; refine Kd.R_append_rows k71 (w0 := w) w.heap.size rfl (.tmp 31) (.tmp 33) 28 71 (.agg #[(.string ⟨#[]⟩), (.string ⟨#[]⟩)]) 32 rfl Try.underlying28 info71 rfl (by decide) (by omega) v190 y189 l0_0 _ _ _ (fun _ => True) (fun _ => False) rfl rfl ?aO ?aR (fun _ _ h => h) (fun _ h => h.elim) ?aF ?aB ?aS ?aL ?_; (case aR => exact cB HR0_0 HB); (case aB => exact t1_); (case aF => exact (fun _ _ => trivial)); (case aO => exact t47_); (case aS => exact (below_size t1_)); (case aL => have := LMc45.out; omega); intro v193 w217 ho hb hg hat; rw [← Ny192.out] at ho; have n0_ := Aside0.mk (blk_grown (g := gb183) (o := .cells #[.slice A0_0 l0_0.length c0_0] 30 (0, 0)) t39_ hg (Kd.R_ne HO191.out BK183.out (by decide))); have n1_ := Aside0.mk (blk_grown (g := gb184) (o := .cells #[.int .i64 a1_0, .string a1_1, .string a1_2, .string a1_3] 65 (0, 0)) t40_ hg (Kd.R_ne HO191.out BK184.out (by decide))); have n2_ := Aside0.mk (blk_grown (g := gb185) (o := .cells #[.slice none 0 0] 30 (0, 0)) t41_ hg (Kd.R_ne HO191.out BK185.out (by decide))); have n3_ := Aside0.mk (hb); have n4_ := Aside0.mk (ho); clear BK183; clear BK184; clear BK185; clear HB; clear HO191; have BK183 := n0_; have BK184 := n1_; have BK185 := n2_; have HB := n3_; have HO194 := n4_; clear n0_ n1_ n2_ n3_ n4_; clear ho hb hg hat; obtain ⟨Ao218, co218, eo218⟩ := Kd.R_slice HO194.out; subst eo218) | ((with_reducible refine gate_dst (N := 7) rfl ?_); refine boxE (N := 7) (cs := #[.slice none 0 0]) (t := 30) (h := ?_); intro gb195 hg w219 hbox hb; replace HO194 := Aside0.mk (Kd.R_below t25_ hb); have BK195 := Aside0.mk (hbox); have GW195 := Aside0.mk ((t15_ : w.heap.size ≤ gb195)); have GE195 := Aside0.mk ((t15_ : w.heap.size ≤ gb195)); replace HB := Aside0.mk (below_step t1_ hb); have NB183_195 := nbL BK183 hg; have NB195_183 := nbG BK183 hg; replace BK183 := bkN BK183 hb; have NB184_195 := nbL BK184 hg; have NB195_184 := nbG BK184 hg; replace BK184 := bkN BK184 hb; have NB185_195 := nbL BK185 hg; have NB195_185 := nbG BK185 hg; replace BK185 := bkN BK185 hb; clear hb hbox hg; have hnb220 := NB195_183.out; have hnc220 := NB183_195.out; have hnb221 := NB195_184.out; have hnc221 := NB184_195.out; have hnb222 := NB195_185.out; have hnc222 := NB185_195.out; have hcz223_0 := bc0 BK195; have hfz223_0 := bf BK195 0; have hnb224 := NB184_185.out; have hnc224 := NB185_184.out; have hcz225_0 := bc0 BK184; have hcz225_1 := bc1 BK184; have hcz225_2 := bc2 BK184; have hcz225_3 := bc3 BK184; have hfz225_0 := bf BK184 0; have hfz225_1 := bf BK184 1; have hfz225_2 := bf BK184 2; have hfz225_3 := bf BK184 3))
                        have n0_ : Aside0 (Kd.R k71 71 (w219.setCell ⟨gb195, 0, none⟩ (.slice Ao218 y192.length co218)) w.heap.size (fun _ => True) (.slice Ao218 y192.length co218) y192) := ⟨by (with_reducible repeat (first | apply Kd.R_alloc | apply Kd.R_drewN | apply Kd.R_drew)); exact Kd.R_mono (Kd.R_far (p := ⟨gb195, 0, none⟩) (Kd.R_types HO194.out BK195.out (by decide)) (fun _ hk => hk.2) (.slice Ao218 y192.length co218)) (fun _ hk => trivial)⟩
                        have n1_ : Aside0 ((w219.setCell ⟨gb195, 0, none⟩ (.slice Ao218 y192.length co218)).heap[gb183]? = some (.cells #[.slice A0_0 l0_0.length c0_0] 30 (0, 0))) := ⟨by (with_reducible repeat (first | refine blk_drewN ?_ _ | refine blk_drew ?_ | refine blk_alloc ?_ _)); refine blk_far ?_ NB183_195.out _; (with_reducible repeat (first | refine blk_drewN ?_ _ | refine blk_drew ?_ | refine blk_alloc ?_ _)); exact BK183.out⟩
                        have n2_ : Aside0 ((w219.setCell ⟨gb195, 0, none⟩ (.slice Ao218 y192.length co218)).heap[gb184]? = some (.cells #[.int .i64 a1_0, .string a1_1, .string a1_2, .string a1_3] 65 (0, 0))) := ⟨by (with_reducible repeat (first | refine blk_drewN ?_ _ | refine blk_drew ?_ | refine blk_alloc ?_ _)); refine blk_far ?_ NB184_195.out _; (with_reducible repeat (first | refine blk_drewN ?_ _ | refine blk_drew ?_ | refine blk_alloc ?_ _)); exact BK184.out⟩
                        have n3_ : Aside0 ((w219.setCell ⟨gb195, 0, none⟩ (.slice Ao218 y192.length co218)).heap[gb185]? = some (.cells #[.slice none 0 0] 30 (0, 0))) := ⟨by (with_reducible repeat (first | refine blk_drewN ?_ _ | refine blk_drew ?_ | refine blk_alloc ?_ _)); refine blk_far ?_ NB185_195.out _; (with_reducible repeat (first | refine blk_drewN ?_ _ | refine blk_drew ?_ | refine blk_alloc ?_ _)); exact BK185.out⟩
                        have n4_ : Aside0 ((w219.setCell ⟨gb195, 0, none⟩ (.slice Ao218 y192.length co218)).heap[gb195]? = some (.cells #[.slice Ao218 y192.length co218] 30 (0, 0))) := ⟨by (with_reducible repeat (first | refine blk_drewN ?_ _ | refine blk_drew ?_ | refine blk_alloc ?_ _)); refine blk_put (cs := #[.slice none 0 0]) ?_ 0 _ rfl; (with_reducible repeat (first | refine blk_drewN ?_ _ | refine blk_drew ?_ | refine blk_alloc ?_ _)); exact BK195.out⟩
                        have n5_ : Aside0 (Below w.heap.size w (w219.setCell ⟨gb195, 0, none⟩ (.slice Ao218 y192.length co218))) := ⟨t6_⟩
                        (try clear HO194)
                        (try clear BK183)
                        (try clear BK184)
                        (try clear BK185)
                        (try clear BK195)
                        (try clear HB)
                        generalize (w219.setCell ⟨gb195, 0, none⟩ (.slice Ao218 y192.length co218)) = w226 at n0_ n1_ n2_ n3_ n4_ n5_ ⊢
                        have HO194 := n0_
                        have BK183 := n1_
                        have BK184 := n2_
                        have BK185 := n3_
                        have BK195 := n4_
                        have HB := n5_
                        clear n0_ n1_ n2_ n3_ n4_ n5_
                        replace HO194 := Aside0.mk (Kd.R_drew HO194.out)
                        replace BK183 := Aside0.mk (blk_drew BK183.out)
                        replace BK184 := Aside0.mk (blk_drew BK184.out)
                        replace BK185 := Aside0.mk (blk_drew BK185.out)
                        replace BK195 := Aside0.mk (blk_drew BK195.out)
                        replace HB := Aside0.mk (below_drew1 HB.out)
                        have p209 : 0 ≤ (t186 : Int) := of_decide_eq_true t13_
                        have q209 : t186 < (l0_0.length : Int) := of_decide_eq_true t13_
                        obtain ⟨ad209, e209, hx209_0, hx209_1⟩ := at_T71 HR0_0.out t186 p209 q209
                        have hw209_1 := hx209_1
                        have hw209_0 := hx209_0
                        cases e209
                        replace hx209_0 := (HB.out.cell (World.block_lt_of_cell? w _ hx209_0)).trans hx209_0
                        replace hx209_1 := (HB.out.cell (World.block_lt_of_cell? w _ hx209_1)).trans hx209_1
                        replace p209 := eq_true p209
                        replace q209 := eq_true q209
                        refine start_ (n := 15) (S := fun w' => w'.cell? ⟨gb183, 0, none⟩ = some (.slice (some ad209) l0_0.length c0_0) ∧ w'.cell? ⟨gb184, 0, none⟩ = some (.int .i64 a1_0) ∧ w'.cell? ⟨gb184, 1, none⟩ = some (.string a1_1) ∧ w'.cell? ⟨gb184, 2, none⟩ = some (.string a1_2) ∧ w'.cell? ⟨gb184, 3, none⟩ = some (.string a1_3) ∧ w'.cell? (ad209.add ((t186).toNat * 2)) = some (.string ((rd_T71 l0_0 t186).f0)) ∧ w'.cell? ⟨(ad209.add ((t186).toNat * 2)).block, (ad209.add ((t186).toNat * 2)).off + 1, none⟩ = some (.string ((rd_T71 l0_0 t186).f1))) (ds := []) #[false, false, false, false, false, false, false, false, false, false, false, false, false, false, false] (by kernel_rfl) rfl rfl ⟨bc0 BK183, bc0 BK184, bc1 BK184, bc2 BK184, bc3 BK184, ((HB.out.cell (World.block_lt_of_cell? w _ hw209_0)).trans hw209_0), ((HB.out.cell (World.block_lt_of_cell? w _ hw209_1)).trans hw209_1)⟩ (fun hHeld => ?_); refine with_tabW spec_PutRaw.tab12 spec_PutRaw.bits12 (fun HT_ HW_ => ?_)
                        generalize w226.drew = w227 at HO194 BK183 BK184 BK185 BK195 HB hx209_0 hx209_1 hHeld ⊢
                        refine pure_ (i := 1) (N := some 69) (v := ?_) (a' := ?_) #[false, true, false, false, false, false, false, false, false, false, false, false, false, false, false] rfl rfl (any_of HT_.out (by kernel_rfl)) (fun _ _ _ h => h) (Or.inl ⟨by rfl, ?_⟩) ?_ ?_
                        rotate_left
                        · intro w'
                          go_simp
                          with_reducible rfl
                        rotate_left
                        · simp only [Act.put, List.setIfInBounds_toArray, List.set_cons_zero, List.set_cons_succ, i64_w, i32_w]
                          rfl
                        refine pure_ (i := 4) (N := some 72) (v := ?_) (a' := ?_) #[false, true, false, false, true, false, false, false, false, false, false, false, false, false, false] rfl rfl (any_of HT_.out (by kernel_rfl)) (fun _ _ _ h => h) (Or.inl ⟨by rfl, ?_⟩) ?_ ?_
                        rotate_left
                        · intro w'
                          go_simp
                          with_reducible rfl
                        rotate_left
                        · simp only [Act.put, List.setIfInBounds_toArray, List.set_cons_zero, List.set_cons_succ, i64_w, i32_w]
                          rfl
                        refine pure_ (i := 6) (N := some 74) (v := ?_) (a' := ?_) #[false, true, false, false, true, false, true, false, false, false, false, false, false, false, false] rfl rfl (any_of HT_.out (by kernel_rfl)) (fun _ _ _ h => h) (Or.inl ⟨by rfl, ?_⟩) ?_ ?_
                        rotate_left
                        · intro w'
                          go_simp
                          with_reducible rfl
                        rotate_left
                        · simp only [Act.put, List.setIfInBounds_toArray, List.set_cons_zero, List.set_cons_succ, i64_w, i32_w]
                          rfl
                        refine pure_ (i := 8) (N := some 76) (v := ?_) (a' := ?_) #[false, true, false, false, true, false, true, false, true, false, false, false, false, false, false] rfl rfl (any_of HT_.out (by kernel_rfl)) (fun _ _ _ h => h) (Or.inl ⟨by rfl, ?_⟩) ?_ ?_
                        rotate_left
                        · intro w'
                          go_simp
                          with_reducible rfl
                        rotate_left
                        · simp only [Act.put, List.setIfInBounds_toArray, List.set_cons_zero, List.set_cons_succ, i64_w, i32_w]
                          rfl
                        refine take_ (i := 0) (N := some 68) (v := ?_) (a' := ?_) #[true, true, false, false, true, false, true, false, true, false, false, false, false, false, false] rfl rfl (take_ofW HT_.out HW_.out (by kernel_rfl)) (fun _ _ _ h => h) (Or.inl ⟨by rfl, ?_⟩) hHeld ?_ ?_
                        rotate_left
                        · rintro w' ⟨s0, s1, s2, s3, s4, s5, s6⟩
                          go_simp
                          with_reducible rfl
                        rotate_left
                        · simp only [Act.put, List.setIfInBounds_toArray, List.set_cons_zero, List.set_cons_succ, i64_w, i32_w]
                          rfl
                        refine take_ (i := 2) (N := some 70) (v := ?_) (a' := ?_) #[true, true, true, false, true, false, true, false, true, false, false, false, false, false, false] rfl rfl (take_ofW HT_.out HW_.out (by kernel_rfl)) (fun _ _ _ h => h) (Or.inl ⟨by rfl, ?_⟩) hHeld ?_ ?_
                        rotate_left
                        · rintro w' ⟨s0, s1, s2, s3, s4, s5, s6⟩
                          go_simp
                          with_reducible rfl
                        rotate_left
                        · simp only [Act.put, List.setIfInBounds_toArray, List.set_cons_zero, List.set_cons_succ, i64_w, i32_w]
                          rfl
                        refine take_ (i := 5) (N := some 73) (v := ?_) (a' := ?_) #[true, true, true, false, true, true, true, false, true, false, false, false, false, false, false] rfl rfl (take_ofW HT_.out HW_.out (by kernel_rfl)) (fun _ _ _ h => h) (Or.inl ⟨by rfl, ?_⟩) hHeld ?_ ?_
                        rotate_left
                        · rintro w' ⟨s0, s1, s2, s3, s4, s5, s6⟩
                          go_simp
                          with_reducible rfl
                        rotate_left
                        · simp only [Act.put, List.setIfInBounds_toArray, List.set_cons_zero, List.set_cons_succ, i64_w, i32_w]
                          rfl
                        refine take_ (i := 7) (N := some 75) (v := ?_) (a' := ?_) #[true, true, true, false, true, true, true, true, true, false, false, false, false, false, false] rfl rfl (take_ofW HT_.out HW_.out (by kernel_rfl)) (fun _ _ _ h => h) (Or.inl ⟨by rfl, ?_⟩) hHeld ?_ ?_
                        rotate_left
                        · rintro w' ⟨s0, s1, s2, s3, s4, s5, s6⟩
                          go_simp
                          with_reducible rfl
                        rotate_left
                        · simp only [Act.put, List.setIfInBounds_toArray, List.set_cons_zero, List.set_cons_succ, i64_w, i32_w]
                          rfl
                        refine pure_ (i := 9) (N := some 77) (v := ?_) (a' := ?_) #[true, true, true, false, true, true, true, true, true, true, false, false, false, false, false] rfl rfl (any_of HT_.out (by kernel_rfl)) (fun _ _ _ h => h) (Or.inl ⟨by rfl, ?_⟩) ?_ ?_
                        rotate_left
                        · intro w'
                          go_simp
                          with_reducible rfl
                        rotate_left
                        · simp only [Act.put, List.setIfInBounds_toArray, List.set_cons_zero, List.set_cons_succ, i64_w, i32_w]
                          rfl
                        refine pure_ (i := 10) (N := some 78) (v := ?_) (a' := ?_) #[true, true, true, false, true, true, true, true, true, true, true, false, false, false, false] rfl rfl (any_of HT_.out (by kernel_rfl)) (fun _ _ _ h => h) (Or.inl ⟨by rfl, ?_⟩) ?_ ?_
                        rotate_left
                        · intro w'
                          go_simp
                          with_reducible rfl
                        rotate_left
                        · simp only [Act.put, List.setIfInBounds_toArray, List.set_cons_zero, List.set_cons_succ, i64_w, i32_w]
                          rfl
                        refine take_ (i := 11) (N := some 79) (v := ?_) (a' := ?_) #[true, true, true, false, true, true, true, true, true, true, true, true, false, false, false] rfl rfl (take_ofW HT_.out HW_.out (by kernel_rfl)) (fun _ _ _ h => h) (Or.inl ⟨by rfl, ?_⟩) hHeld ?_ ?_
                        rotate_left
                        · rintro w' ⟨s0, s1, s2, s3, s4, s5, s6⟩
                          go_simp
                          with_reducible rfl
                        rotate_left
                        · simp only [Act.put, List.setIfInBounds_toArray, List.set_cons_zero, List.set_cons_succ, i64_w, i32_w]
                          rfl
                        refine pure_ (i := 12) (N := some 80) (v := ?_) (a' := ?_) #[true, true, true, false, true, true, true, true, true, true, true, true, true, false, false] rfl rfl (any_of HT_.out (by kernel_rfl)) (fun _ _ _ h => h) (Or.inl ⟨by rfl, ?_⟩) ?_ ?_
                        rotate_left
                        · intro w'
                          go_simp
                          with_reducible rfl
                        rotate_left
                        · simp only [Act.put, List.setIfInBounds_toArray, List.set_cons_zero, List.set_cons_succ, i64_w, i32_w]
                          rfl
                        refine one_ (i := 3) (N := some 71) #[true, true, true, true, true, true, true, true, true, true, true, true, true, false, false] rfl rfl (one_of HT_.out (by kernel_rfl)) (by decide) (fun K hK => ?_)
                        refine goes_ Try.func88 (by kernel_rfl) rfl #[.agg #[.slice (some ad209) l0_0.length c0_0], .string a1_1] (by rfl) rfl rfl t2_ ?_
                        with_reducible refine (spec_l03Drop.calls kj3 _ _ l0_0 a1_1 t206 _ ?side1 ?side2 A181.out).mono ?_
                        (case side1 => exact cB HR0_0 HB)
                        (case side2 => exact HC0_0.out)
                        rintro e w228 ⟨v207, rfl, ho0, hb⟩
                        refine ⟨_, rfl, ?_⟩
                        have HO208 := Aside0.mk (Kd.R_lower (Kd.R_new' ho0 (Kd.R_lt t25_)) (below_size t6_))
                        replace HO194 := Aside0.mk (Kd.R_elder' t25_ (Kd.R_base ho0) hb)
                        replace BK183 := bkN BK183 hb
                        replace BK184 := bkN BK184 hb
                        replace BK185 := bkN BK185 hb
                        replace BK195 := bkN BK195 hb
                        replace HB := Aside0.mk (below_step t6_ hb)
                        (try clear hb)
                        (try clear hb2)
                        (try clear hk)
                        (try clear hi)
                        (try clear ho0)
                        obtain ⟨Ao229, co229, eo229⟩ := Kd.R_slice HO208.out
                        (first | subst eo229 | (injection eo229 with f1_ f2_ f3_; have f4_ := f1_.symm; have f5_ := f3_.symm; clear f1_ f2_ f3_; subst f4_; subst f5_))
                        refine hK.out _ _ ⟨bc0 BK183, bc0 BK184, bc1 BK184, bc2 BK184, bc3 BK184, ((HB.out.cell (World.block_lt_of_cell? w _ hw209_0)).trans hw209_0), ((HB.out.cell (World.block_lt_of_cell? w _ hw209_1)).trans hw209_1)⟩ (fun hHeld => ?_)
                        clear hK K
                        refine norm_ (a' := ?_) ?_ ?_
                        rotate_left
                        · show Act.put _ (some 71) _ = _
                          simp only [Act.put, List.setIfInBounds_toArray, List.set_cons_zero, List.set_cons_succ, i64_w, i32_w]
                          rfl
                        refine one_ (i := 13) (N := some 81) #[true, true, true, true, true, true, true, true, true, true, true, true, true, true, false] rfl rfl (one_of HT_.out (by kernel_rfl)) (by decide) (fun K hK => ?_)
                        refine goes_ Try.func79 (by kernel_rfl) rfl #[.agg #[.slice Ao229 t206.length co229], .agg #[.string a1_2, .string ((rd_T71 l0_0 t186).f1)]] (by rfl) rfl rfl t2_ ?_
                        with_reducible refine (spec_l03Put.calls kj3 _ _ t206 a1_2 ((rd_T71 l0_0 t186).f1) t210 _ ?side1 ?side2 A184.out).mono ?_
                        (case side1 => repeat (first | exact (Kd.R_reads' HO208.out).2.2 | (with_reducible refine Kd.C_alloc ?_ _) | (with_reducible refine Kd.C_drewN ?_ _) | (with_reducible refine Kd.C_drew ?_)))
                        (case side2 => exact (Kd.R_reads' HO208.out).2.1)
                        rintro e w230 ⟨v211, rfl, ho0, hb⟩
                        refine ⟨_, rfl, ?_⟩
                        have HO212 := Aside0.mk (Kd.R_lower (Kd.R_new' (Kd.R_new' ho0 (Kd.R_lt t25_)) (Kd.R_lt t70_)) (below_size t6_))
                        replace HO194 := Aside0.mk (Kd.R_elder' t25_ (Kd.R_base ho0) hb)
                        replace HO208 := Aside0.mk (Kd.R_elder' t70_ (Kd.R_base ho0) hb)
                        replace BK183 := bkN BK183 hb
                        replace BK184 := bkN BK184 hb
                        replace BK185 := bkN BK185 hb
                        replace BK195 := bkN BK195 hb
                        replace HB := Aside0.mk (below_step t6_ hb)
                        (try clear hb)
                        (try clear hb2)
                        (try clear hk)
                        (try clear hi)
                        (try clear ho0)
                        obtain ⟨Ao231, co231, eo231⟩ := Kd.R_slice HO212.out
                        (first | subst eo231 | (injection eo231 with f1_ f2_ f3_; have f4_ := f1_.symm; have f5_ := f3_.symm; clear f1_ f2_ f3_; subst f4_; subst f5_))
                        refine hK.out _ _ ⟨bc0 BK183, bc0 BK184, bc1 BK184, bc2 BK184, bc3 BK184, ((HB.out.cell (World.block_lt_of_cell? w _ hw209_0)).trans hw209_0), ((HB.out.cell (World.block_lt_of_cell? w _ hw209_1)).trans hw209_1)⟩ (fun hHeld => ?_)
                        clear hK K
                        refine norm_ (a' := ?_) ?_ ?_
                        rotate_left
                        · show Act.put _ (some 81) _ = _
                          simp only [Act.put, List.setIfInBounds_toArray, List.set_cons_zero, List.set_cons_succ, i64_w, i32_w]
                          rfl
                        refine one_ (i := 14) (N := none) #[true, true, true, true, true, true, true, true, true, true, true, true, true, true, true] rfl rfl (one_of HT_.out (by kernel_rfl)) (by decide) (fun K hK => ?_)
                        have hs232 : w230.cell? ⟨gb195, 0, none⟩ = some (.slice Ao218 y192.length co218) := bc0 BK195
                        have hfs232 := bf BK195 0
                        have hns232_0 := NB183_195.out
                        have hns232_1 := NB184_195.out
                        have hns232_2 := NB185_195.out
                        have hms232_0 := NB195_183.out
                        have hms232_1 := NB195_184.out
                        have hms232_2 := NB195_185.out
                        refine skip_ (w1 := ?_) (by rfl) rfl ?_ ?_
                        rotate_left
                        · go_simp
                          rfl
                        refine hK.out _ _ ⟨((cell_far (p := ⟨gb195, _, none⟩) NB183_195.out _).trans (hHeld.1)), ((cell_far (p := ⟨gb195, _, none⟩) NB184_195.out _).trans (hHeld.2.1)), ((cell_far (p := ⟨gb195, _, none⟩) NB184_195.out _).trans (hHeld.2.2.1)), ((cell_far (p := ⟨gb195, _, none⟩) NB184_195.out _).trans (hHeld.2.2.2.1)), ((cell_far (p := ⟨gb195, _, none⟩) NB184_195.out _).trans (hHeld.2.2.2.2.1)), ((cell_far (p := ⟨gb195, _, none⟩) (by first | exact Nat.ne_of_lt (Nat.lt_of_lt_of_le (by have := World.block_lt_of_cell? _ _ hw209_0; first | rwa [add_block] at this | exact this) GW195.out) | (rw [add_block]; exact Nat.ne_of_lt (Nat.lt_of_lt_of_le (by have := World.block_lt_of_cell? _ _ hw209_0; first | rwa [add_block] at this | exact this) GW195.out)) | (show (Addr.add _ _).block ≠ _; rw [add_block]; exact Nat.ne_of_lt (Nat.lt_of_lt_of_le (by have := World.block_lt_of_cell? _ _ hw209_0; first | rwa [add_block] at this | exact this) GW195.out)) | (dsimp only; exact Nat.ne_of_lt (Nat.lt_of_lt_of_le (by have := World.block_lt_of_cell? _ _ hw209_0; first | rwa [add_block] at this | exact this) GW195.out))) _).trans (hHeld.2.2.2.2.2.1)), ((cell_far (p := ⟨gb195, _, none⟩) (by first | exact Nat.ne_of_lt (Nat.lt_of_lt_of_le (by have := World.block_lt_of_cell? _ _ hw209_1; first | rwa [add_block] at this | exact this) GW195.out) | (rw [add_block]; exact Nat.ne_of_lt (Nat.lt_of_lt_of_le (by have := World.block_lt_of_cell? _ _ hw209_1; first | rwa [add_block] at this | exact this) GW195.out)) | (show (Addr.add _ _).block ≠ _; rw [add_block]; exact Nat.ne_of_lt (Nat.lt_of_lt_of_le (by have := World.block_lt_of_cell? _ _ hw209_1; first | rwa [add_block] at this | exact this) GW195.out)) | (dsimp only; exact Nat.ne_of_lt (Nat.lt_of_lt_of_le (by have := World.block_lt_of_cell? _ _ hw209_1; first | rwa [add_block] at this | exact this) GW195.out))) _).trans (hHeld.2.2.2.2.2.2))⟩ (fun hHeld => ?_)
                        clear hK K
                        refine done_ (done_of HT_.out (by kernel_rfl)) ?_
                        have hcz233_0 := bc0 BK195
                        have hfz233_0 := bf BK195 0
                        try go_wp2_with (first | ((with_reducible refine gate_callee (f := 56) rfl ?_); refine goesL_ (some 89) rfl rfl Try.func56 (by kernel_rfl) rfl #[.agg #[.slice Ao231 t210.length co231]] rfl t2_ ?_; (with_reducible refine (spec_DiskOk.calls kj3 _ _ t210 false _ ?side1 ?side2 A185.out).mono ?_); (case side1 => refine (Kd.R_reads' (e := 71) (base := w.heap.size) (ok := fun k_ => ((True ∧ some k_ ≠ (.slice Ao218 y192.length co218 : Value).ownBlock) ∧ some k_ ≠ (.slice Ao229 t206.length co229 : Value).ownBlock)) (n := t210.length) (c := co231) ?_).2.2; exact (by (with_reducible repeat (first | apply Kd.R_alloc | apply Kd.R_drewN | apply Kd.R_drew)); exact (Kd.R_mono (Kd.R_far (p := ⟨gb195, 0, none⟩) (Kd.R_types HO212.out BK195.out (by decide)) (fun _ hk => hk.2) (.slice Ao231 t210.length co231)) (fun _ h_ => h_.1)))); (case side2 => exact (Kd.R_reads' HO212.out).2.1); rintro e w234 ⟨rfl, hb⟩; refine ⟨_, rfl, ?_⟩; replace HO194 := Aside0.mk (Kd.R_below (by (with_reducible repeat (first | apply Kd.R_alloc | apply Kd.R_drewN | apply Kd.R_drew)); exact (Kd.R_mono (Kd.R_far (p := ⟨gb195, 0, none⟩) (Kd.R_types HO194.out BK195.out (by decide)) (fun _ hk => hk.2) (.slice Ao231 t210.length co231)) (fun _ h_ => h_.1))) hb); replace HO208 := Aside0.mk (Kd.R_below (by (with_reducible repeat (first | apply Kd.R_alloc | apply Kd.R_drewN | apply Kd.R_drew)); exact (Kd.R_mono (Kd.R_far (p := ⟨gb195, 0, none⟩) (Kd.R_types HO208.out BK195.out (by decide)) (fun _ hk => hk.2) (.slice Ao231 t210.length co231)) (fun _ h_ => h_.1))) hb); replace HO212 := Aside0.mk (Kd.R_below (by (with_reducible repeat (first | apply Kd.R_alloc | apply Kd.R_drewN | apply Kd.R_drew)); exact (Kd.R_mono (Kd.R_far (p := ⟨gb195, 0, none⟩) (Kd.R_types HO212.out BK195.out (by decide)) (fun _ hk => hk.2) (.slice Ao231 t210.length co231)) (fun _ h_ => h_.1))) hb); replace BK183 := bkF BK183 NB183_195 hb; replace BK184 := bkF BK184 NB184_195 hb; replace BK185 := bkF BK185 NB185_195 hb; replace BK195 := Aside0.mk (blk_below (g := gb195) (o := .cells #[.slice Ao231 t210.length co231] 30 (0, 0)) (by (with_reducible repeat (first | refine blk_drewN ?_ _ | refine blk_drew ?_ | refine blk_alloc ?_ _)); refine blk_put (cs := #[.slice Ao218 y192.length co218]) ?_ 0 _ rfl; (with_reducible repeat (first | refine blk_drewN ?_ _ | refine blk_drew ?_ | refine blk_alloc ?_ _)); exact BK195.out) hb); replace HB := Aside0.mk (below_step t6_ hb); (try clear hb); (try clear hb2); (try clear hk); (try clear hi); have hcz235_0 := bc0 BK185; have hfz235_0 := bf BK185 0))
                        refine bodyPost_ret (results_ct rfl _ _ gb185 30 #[.slice none 0 0] (0, 0) _ rfl (by (with_reducible repeat (first | refine blk_drewN ?_ _ | refine blk_drew ?_ | refine blk_alloc ?_ _)); refine blk_put (cs := #[.slice none 0 0]) ?_ 0 _ rfl; (with_reducible repeat (first | refine blk_drewN ?_ _ | refine blk_drew ?_ | refine blk_alloc ?_ _)); exact BK185.out) Try.underlying30 rfl (by kernel_rfl)) rfl ?_
                        exact ⟨_, by first | rfl | (simp [errW_none, errW_some] <;> rfl) | (simp [*, errW_none, errW_some] <;> rfl), by first | exact Kd.R_nil _ _ _ _ _ | exact Kd.N_nil _ _ _ _ _ | exact Kd.V_nil _ _ _ _ _ | exact Kd.Q_nil _ _ _ _ _ | exact Kd.S_nil _ _ _ _ _, t6_⟩
                    · rw [if_neg c183] at H
                      exact absurd H (by simp)
                  · rw [if_neg c182] at H
                    exact absurd H (by simp)
              · rw [if_neg c144] at H
                have c144b0 : (a1_0 == 3) = false := beq_eq_false_iff_ne.mpr c144
                have c144b1 : (a1_0 != 3) = true := bne_iff_ne.mpr c144
                by_cases c236 : a1_0 = 4
                · rw [if_pos c236] at H
                  have c236b0 : (a1_0 == 4) = true := beq_iff_eq.mpr c236
                  have c236b1 : (a1_0 != 4) = false := bne_eq_false_iff_eq.mpr c236
                  clear c236
                  replace H := Option.bind_eq_some_iff.mp H
                  obtain ⟨t214, A2370, H⟩ := H
                  replace H : ((spec_DiskOk.f kj3 t214).bind fun t217 => (if t217 = true then (some (t214, true)) else (some (([] : List (S71)), false)))) = some (r1, r2) := H
                  have A237 := Aside0.mk A2370
                  clear A2370
                  replace H := Option.bind_eq_some_iff.mp H
                  obtain ⟨t217, A2380, H⟩ := H
                  replace H : (if t217 = true then (some (t214, true)) else (some (([] : List (S71)), false))) = some (r1, r2) := H
                  have A238 := Aside0.mk A2380
                  clear A2380
                  by_cases c239 : t217 = true
                  · subst c239
                    have H1 : (some (t214, true)) = some (r1, r2) := by rw [if_pos rfl] at H; exact H
                    clear H
                    have H := H1
                    clear H1
                    simp only [Option.some.injEq, Prod.mk.injEq] at H
                    obtain ⟨rfl, rfl⟩ := H
                    go_wp2_with (first | ((with_reducible refine gate_dst (N := 31) rfl ?_); refine Kd.R_lit k71 _ 71 ?hg (N := 31) ?hd (xs := ([] : List (S71))) (inner := []) (ok := fun _ => True) (okp := fun _ => True) ?hr ?hp (fun _ hk => hk) trivial (Below.refl _ _) (Nat.le_refl _) (by simp) ?_; (case hd => rfl); (case hg => rfl); (case hr => first | (go_simp; done) | (go_simp; rfl)); (case hp => exact (Reps.none _ _)); intro v190 w240 ho241 hb hg_ hnew_; clear hg_ hnew_; (first | rw [← Ny189.out] at ho241 | (simp only [Int.reduceToNat] at ho241; rw [← Ny189.out] at ho241)); have HO191 := Aside0.mk (Kd.R_lower ho241 (below_size t1_)); replace BK183 := bkN BK183 hb; replace BK184 := bkN BK184 hb; replace BK185 := bkN BK185 hb; replace HB := Aside0.mk (below_step t1_ hb); clear hb ho241; have hnb242 := NB183_184.out; have hnc242 := NB184_183.out; have hnb243 := NB183_185.out; have hnc243 := NB185_183.out; have hcz244_0 := bc0 BK183; have hfz244_0 := bf BK183 0) | ((with_reducible refine gate_builtin (b := .append) (xs := #[.tmp 31, .tmp 33]) rfl ?_); at_builtin; refine Kd.R_append_rows k71 (w0 := w) w.heap.size rfl (.tmp 31) (.tmp 33) 28 71 (.agg #[(.string ⟨#[]⟩), (.string ⟨#[]⟩)]) 32 rfl Try.underlying28 info71 rfl (by decide) (by omega) v190 y189 l0_0 _ _ _ (fun _ => True) (fun _ => False) rfl rfl ?aO ?aR (fun _ _ h => h) (fun _ h => h.elim) ?aF ?aB ?aS ?aL ?_; (case aR => exact cB HR0_0 HB); (case aB => exact t1_); (case aF => exact (fun _ _ => trivial)); (case aO => exact t47_); (case aS => exact (below_size t1_)); (case aL => have := LMc45.out; omega); intro v193 w245 ho hb hg hat; rw [← Ny192.out] at ho; have n0_ := Aside0.mk (blk_grown (g := gb183) (o := .cells #[.slice A0_0 l0_0.length c0_0] 30 (0, 0)) t39_ hg (Kd.R_ne HO191.out BK183.out (by decide))); have n1_ := Aside0.mk (blk_grown (g := gb184) (o := .cells #[.int .i64 a1_0, .string a1_1, .string a1_2, .string a1_3] 65 (0, 0)) t40_ hg (Kd.R_ne HO191.out BK184.out (by decide))); have n2_ := Aside0.mk (blk_grown (g := gb185) (o := .cells #[.slice none 0 0] 30 (0, 0)) t41_ hg (Kd.R_ne HO191.out BK185.out (by decide))); have n3_ := Aside0.mk (hb); have n4_ := Aside0.mk (ho); clear BK183; clear BK184; clear BK185; clear HB; clear HO191; have BK183 := n0_; have BK184 := n1_; have BK185 := n2_; have HB := n3_; have HO194 := n4_; clear n0_ n1_ n2_ n3_ n4_; clear ho hb hg hat; obtain ⟨Ao246, co246, eo246⟩ := Kd.R_slice HO194.out; subst eo246) | ((with_reducible refine gate_dst (N := 7) rfl ?_); refine boxE (N := 7) (cs := #[.slice none 0 0]) (t := 30) (h := ?_); intro gb195 hg w247 hbox hb; replace HO194 := Aside0.mk (Kd.R_below t25_ hb); have BK195 := Aside0.mk (hbox); have GW195 := Aside0.mk ((t15_ : w.heap.size ≤ gb195)); have GE195 := Aside0.mk ((t15_ : w.heap.size ≤ gb195)); replace HB := Aside0.mk (below_step t1_ hb); have NB183_195 := nbL BK183 hg; have NB195_183 := nbG BK183 hg; replace BK183 := bkN BK183 hb; have NB184_195 := nbL BK184 hg; have NB195_184 := nbG BK184 hg; replace BK184 := bkN BK184 hb; have NB185_195 := nbL BK185 hg; have NB195_185 := nbG BK185 hg; replace BK185 := bkN BK185 hb; clear hb hbox hg; have hnb248 := NB195_183.out; have hnc248 := NB183_195.out; have hnb249 := NB195_184.out; have hnc249 := NB184_195.out; have hnb250 := NB195_185.out; have hnc250 := NB185_195.out; have hcz251_0 := bc0 BK195; have hfz251_0 := bf BK195 0; have hnb252 := NB184_185.out; have hnc252 := NB185_184.out; have hcz253_0 := bc0 BK184; have hcz253_1 := bc1 BK184; have hcz253_2 := bc2 BK184; have hcz253_3 := bc3 BK184; have hfz253_0 := bf BK184 0; have hfz253_1 := bf BK184 1; have hfz253_2 := bf BK184 2; have hfz253_3 := bf BK184 3; have hcz254_0 := bc0 BK183; have hfz254_0 := bf BK183 0) | ((with_reducible refine gate_callee (f := 88) rfl ?_); refine goesL_ (some 87) rfl rfl Try.func88 (by kernel_rfl) rfl #[.agg #[.slice A0_0 l0_0.length c0_0], .string a1_1] rfl t2_ ?_; (with_reducible refine (spec_l03Drop.calls kj3 _ _ l0_0 a1_1 t214 _ ?side1 ?side2 A237.out).mono ?_); (case side1 => exact Kd.C_below HR0_0.out t6_); (case side2 => exact HC0_0.out); rintro e w255 ⟨v215, rfl, ho0, hb⟩; refine ⟨_, rfl, ?_⟩; have HO216 := Aside0.mk (Kd.R_lower (Kd.R_new' ho0 (Kd.R_lt (by (with_reducible repeat (first | apply Kd.R_alloc | apply Kd.R_drewN | apply Kd.R_drew)); exact (Kd.R_mono (Kd.R_far (p := ⟨gb195, 0, none⟩) (Kd.R_types HO194.out BK195.out (by decide)) (fun _ hk => hk.2) (.slice Ao246 y192.length co246)) (fun _ h_ => h_.1))))) (below_size t6_)); replace HO194 := Aside0.mk (Kd.R_elder' (by (with_reducible repeat (first | apply Kd.R_alloc | apply Kd.R_drewN | apply Kd.R_drew)); exact (Kd.R_mono (Kd.R_far (p := ⟨gb195, 0, none⟩) (Kd.R_types HO194.out BK195.out (by decide)) (fun _ hk => hk.2) (.slice Ao246 y192.length co246)) (fun _ h_ => h_.1))) (Kd.R_base ho0) hb); replace BK183 := bkF BK183 NB183_195 hb; replace BK184 := bkF BK184 NB184_195 hb; replace BK185 := bkF BK185 NB185_195 hb; replace BK195 := Aside0.mk (blk_below (g := gb195) (o := .cells #[.slice Ao246 y192.length co246] 30 (0, 0)) (by (with_reducible repeat (first | refine blk_drewN ?_ _ | refine blk_drew ?_ | refine blk_alloc ?_ _)); refine blk_put (cs := #[.slice none 0 0]) ?_ 0 _ rfl; (with_reducible repeat (first | refine blk_drewN ?_ _ | refine blk_drew ?_ | refine blk_alloc ?_ _)); exact BK195.out) hb); replace HB := Aside0.mk (below_step t6_ hb); (try clear hb); (try clear hb2); (try clear hk); (try clear hi); (try clear ho0); obtain ⟨Ao256, co256, eo256⟩ := Kd.R_slice HO216.out; subst eo256; have hcz257_0 := bc0 BK195; have hfz257_0 := bf BK195 0) | ((with_reducible refine gate_callee (f := 56) rfl ?_); refine goesL_ (some 89) rfl rfl Try.func56 (by kernel_rfl) rfl #[.agg #[.slice Ao256 t214.length co256]] rfl t2_ ?_; (with_reducible refine (spec_DiskOk.calls kj3 _ _ t214 true _ ?side1 ?side2 A238.out).mono ?_); (case side1 => refine (Kd.R_reads' (e := 71) (base := w.heap.size) (ok := fun k_ => (True ∧ some k_ ≠ (.slice Ao246 y192.length co246 : Value).ownBlock)) (n := t214.length) (c := co256) ?_).2.2; exact (by (with_reducible repeat (first | apply Kd.R_alloc | apply Kd.R_drewN | apply Kd.R_drew)); exact (Kd.R_mono (Kd.R_far (p := ⟨gb195, 0, none⟩) (Kd.R_types HO216.out BK195.out (by decide)) (fun _ hk => hk.2) (.slice Ao256 t214.length co256)) (fun _ h_ => h_.1)))); (case side2 => exact (Kd.R_reads' HO216.out).2.1); rintro e w258 ⟨rfl, hb⟩; refine ⟨_, rfl, ?_⟩; replace HO194 := Aside0.mk (Kd.R_below (by (with_reducible repeat (first | apply Kd.R_alloc | apply Kd.R_drewN | apply Kd.R_drew)); exact (Kd.R_mono (Kd.R_far (p := ⟨gb195, 0, none⟩) (Kd.R_types HO194.out BK195.out (by decide)) (fun _ hk => hk.2) (.slice Ao256 t214.length co256)) (fun _ h_ => h_.1))) hb); replace HO216 := Aside0.mk (Kd.R_below (by (with_reducible repeat (first | apply Kd.R_alloc | apply Kd.R_drewN | apply Kd.R_drew)); exact (Kd.R_mono (Kd.R_far (p := ⟨gb195, 0, none⟩) (Kd.R_types HO216.out BK195.out (by decide)) (fun _ hk => hk.2) (.slice Ao256 t214.length co256)) (fun _ h_ => h_.1))) hb); replace BK183 := bkF BK183 NB183_195 hb; replace BK184 := bkF BK184 NB184_195 hb; replace BK185 := bkF BK185 NB185_195 hb; replace BK195 := Aside0.mk (blk_below (g := gb195) (o := .cells #[.slice Ao256 t214.length co256] 30 (0, 0)) (by (with_reducible repeat (first | refine blk_drewN ?_ _ | refine blk_drew ?_ | refine blk_alloc ?_ _)); refine blk_put (cs := #[.slice Ao246 y192.length co246]) ?_ 0 _ rfl; (with_reducible repeat (first | refine blk_drewN ?_ _ | refine blk_drew ?_ | refine blk_alloc ?_ _)); exact BK195.out) hb); replace HB := Aside0.mk (below_step t6_ hb); (try clear hb); (try clear hb2); (try clear hk); (try clear hi); have hcz259_0 := bc0 BK195; have hfz259_0 := bf BK195 0; have hcz260_0 := bc0 BK185; have hfz260_0 := bf BK185 0))
                    refine bodyPost_ret (results_ct rfl _ _ gb185 30 #[.slice Ao256 t214.length co256] (0, 0) _ rfl (by (with_reducible repeat (first | refine blk_drewN ?_ _ | refine blk_drew ?_ | refine blk_alloc ?_ _)); refine blk_put (cs := #[.slice none 0 0]) ?_ 0 _ rfl; (with_reducible repeat (first | refine blk_drewN ?_ _ | refine blk_drew ?_ | refine blk_alloc ?_ _)); exact BK185.out) Try.underlying30 rfl (by kernel_rfl)) rfl ?_
                    exact ⟨_, by first | rfl | (simp [errW_none, errW_some] <;> rfl) | (simp [*, errW_none, errW_some] <;> rfl), by (with_reducible repeat (first | apply Kd.R_alloc | apply Kd.R_drewN | apply Kd.R_drew)); exact Kd.R_mono (Kd.R_far (p := ⟨gb185, 0, none⟩) (Kd.R_types HO216.out BK185.out (by decide)) (fun _ hk => hk.2) (.slice Ao256 t214.length co256)) (fun _ hk => trivial), t6_⟩
                  · replace c239 := Bool.eq_false_iff.mpr c239
                    subst c239
                    have H1 : (some (([] : List (S71)), false)) = some (r1, r2) := by rw [if_neg (show ¬ (false = true) by decide)] at H; exact H
                    clear H
                    have H := H1
                    clear H1
                    simp only [Option.some.injEq, Prod.mk.injEq] at H
                    obtain ⟨rfl, rfl⟩ := H
                    go_wp2_with (first | ((with_reducible refine gate_dst (N := 31) rfl ?_); refine Kd.R_lit k71 _ 71 ?hg (N := 31) ?hd (xs := ([] : List (S71))) (inner := []) (ok := fun _ => True) (okp := fun _ => True) ?hr ?hp (fun _ hk => hk) trivial (Below.refl _ _) (Nat.le_refl _) (by simp) ?_; (case hd => rfl); (case hg => rfl); (case hr => first | (go_simp; done) | (go_simp; rfl)); (case hp => exact (Reps.none _ _)); intro v190 w261 ho262 hb hg_ hnew_; clear hg_ hnew_; (first | rw [← Ny189.out] at ho262 | (simp only [Int.reduceToNat] at ho262; rw [← Ny189.out] at ho262)); have HO191 := Aside0.mk (Kd.R_lower ho262 (below_size t1_)); replace BK183 := bkN BK183 hb; replace BK184 := bkN BK184 hb; replace BK185 := bkN BK185 hb; replace HB := Aside0.mk (below_step t1_ hb); clear hb ho262; have hnb263 := NB183_184.out; have hnc263 := NB184_183.out; have hnb264 := NB183_185.out; have hnc264 := NB185_183.out; have hcz265_0 := bc0 BK183; have hfz265_0 := bf BK183 0) | ((with_reducible refine gate_builtin (b := .append) (xs := #[.tmp 31, .tmp 33]) rfl ?_); at_builtin; refine Kd.R_append_rows k71 (w0 := w) w.heap.size rfl (.tmp 31) (.tmp 33) 28 71 (.agg #[(.string ⟨#[]⟩), (.string ⟨#[]⟩)]) 32 rfl Try.underlying28 info71 rfl (by decide) (by omega) v190 y189 l0_0 _ _ _ (fun _ => True) (fun _ => False) rfl rfl ?aO ?aR (fun _ _ h => h) (fun _ h => h.elim) ?aF ?aB ?aS ?aL ?_; (case aR => exact cB HR0_0 HB); (case aB => exact t1_); (case aF => exact (fun _ _ => trivial)); (case aO => exact t47_); (case aS => exact (below_size t1_)); (case aL => have := LMc45.out; omega); intro v193 w266 ho hb hg hat; rw [← Ny192.out] at ho; have n0_ := Aside0.mk (blk_grown (g := gb183) (o := .cells #[.slice A0_0 l0_0.length c0_0] 30 (0, 0)) t39_ hg (Kd.R_ne HO191.out BK183.out (by decide))); have n1_ := Aside0.mk (blk_grown (g := gb184) (o := .cells #[.int .i64 a1_0, .string a1_1, .string a1_2, .string a1_3] 65 (0, 0)) t40_ hg (Kd.R_ne HO191.out BK184.out (by decide))); have n2_ := Aside0.mk (blk_grown (g := gb185) (o := .cells #[.slice none 0 0] 30 (0, 0)) t41_ hg (Kd.R_ne HO191.out BK185.out (by decide))); have n3_ := Aside0.mk (hb); have n4_ := Aside0.mk (ho); clear BK183; clear BK184; clear BK185; clear HB; clear HO191; have BK183 := n0_; have BK184 := n1_; have BK185 := n2_; have HB := n3_; have HO194 := n4_; clear n0_ n1_ n2_ n3_ n4_; clear ho hb hg hat; obtain ⟨Ao267, co267, eo267⟩ := Kd.R_slice HO194.out; subst eo267) | ((with_reducible refine gate_dst (N := 7) rfl ?_); refine boxE (N := 7) (cs := #[.slice none 0 0]) (t := 30) (h := ?_); intro gb195 hg w268 hbox hb; replace HO194 := Aside0.mk (Kd.R_below t25_ hb); have BK195 := Aside0.mk (hbox); have GW195 := Aside0.mk ((t15_ : w.heap.size ≤ gb195)); have GE195 := Aside0.mk ((t15_ : w.heap.size ≤ gb195)); replace HB := Aside0.mk (below_step t1_ hb); have NB183_195 := nbL BK183 hg; have NB195_183 := nbG BK183 hg; replace BK183 := bkN BK183 hb; have NB184_195 := nbL BK184 hg; have NB195_184 := nbG BK184 hg; replace BK184 := bkN BK184 hb; have NB185_195 := nbL BK185 hg; have NB195_185 := nbG BK185 hg; replace BK185 := bkN BK185 hb; clear hb hbox hg; have hnb269 := NB195_183.out; have hnc269 := NB183_195.out; have hnb270 := NB195_184.out; have hnc270 := NB184_195.out; have hnb271 := NB195_185.out; have hnc271 := NB185_195.out; have hcz272_0 := bc0 BK195; have hfz272_0 := bf BK195 0; have hnb273 := NB184_185.out; have hnc273 := NB185_184.out; have hcz274_0 := bc0 BK184; have hcz274_1 := bc1 BK184; have hcz274_2 := bc2 BK184; have hcz274_3 := bc3 BK184; have hfz274_0 := bf BK184 0; have hfz274_1 := bf BK184 1; have hfz274_2 := bf BK184 2; have hfz274_3 := bf BK184 3; have hcz275_0 := bc0 BK183; have hfz275_0 := bf BK183 0) | ((with_reducible refine gate_callee (f := 88) rfl ?_); refine goesL_ (some 87) rfl rfl Try.func88 (by kernel_rfl) rfl #[.agg #[.slice A0_0 l0_0.length c0_0], .string a1_1] rfl t2_ ?_; (with_reducible refine (spec_l03Drop.calls kj3 _ _ l0_0 a1_1 t214 _ ?side1 ?side2 A237.out).mono ?_); (case side1 => exact Kd.C_below HR0_0.out t6_); (case side2 => exact HC0_0.out); rintro e w276 ⟨v215, rfl, ho0, hb⟩; refine ⟨_, rfl, ?_⟩; have HO216 := Aside0.mk (Kd.R_lower (Kd.R_new' ho0 (Kd.R_lt (by (with_reducible repeat (first | apply Kd.R_alloc | apply Kd.R_drewN | apply Kd.R_drew)); exact (Kd.R_mono (Kd.R_far (p := ⟨gb195, 0, none⟩) (Kd.R_types HO194.out BK195.out (by decide)) (fun _ hk => hk.2) (.slice Ao267 y192.length co267)) (fun _ h_ => h_.1))))) (below_size t6_)); replace HO194 := Aside0.mk (Kd.R_elder' (by (with_reducible repeat (first | apply Kd.R_alloc | apply Kd.R_drewN | apply Kd.R_drew)); exact (Kd.R_mono (Kd.R_far (p := ⟨gb195, 0, none⟩) (Kd.R_types HO194.out BK195.out (by decide)) (fun _ hk => hk.2) (.slice Ao267 y192.length co267)) (fun _ h_ => h_.1))) (Kd.R_base ho0) hb); replace BK183 := bkF BK183 NB183_195 hb; replace BK184 := bkF BK184 NB184_195 hb; replace BK185 := bkF BK185 NB185_195 hb; replace BK195 := Aside0.mk (blk_below (g := gb195) (o := .cells #[.slice Ao267 y192.length co267] 30 (0, 0)) (by (with_reducible repeat (first | refine blk_drewN ?_ _ | refine blk_drew ?_ | refine blk_alloc ?_ _)); refine blk_put (cs := #[.slice none 0 0]) ?_ 0 _ rfl; (with_reducible repeat (first | refine blk_drewN ?_ _ | refine blk_drew ?_ | refine blk_alloc ?_ _)); exact BK195.out) hb); replace HB := Aside0.mk (below_step t6_ hb); (try clear hb); (try clear hb2); (try clear hk); (try clear hi); (try clear ho0); obtain ⟨Ao277, co277, eo277⟩ := Kd.R_slice HO216.out; subst eo277; have hcz278_0 := bc0 BK195; have hfz278_0 := bf BK195 0) | ((with_reducible refine gate_callee (f := 56) rfl ?_); refine goesL_ (some 89) rfl rfl Try.func56 (by kernel_rfl) rfl #[.agg #[.slice Ao277 t214.length co277]] rfl t2_ ?_; (with_reducible refine (spec_DiskOk.calls kj3 _ _ t214 false _ ?side1 ?side2 A238.out).mono ?_); (case side1 => refine (Kd.R_reads' (e := 71) (base := w.heap.size) (ok := fun k_ => (True ∧ some k_ ≠ (.slice Ao267 y192.length co267 : Value).ownBlock)) (n := t214.length) (c := co277) ?_).2.2; exact (by (with_reducible repeat (first | apply Kd.R_alloc | apply Kd.R_drewN | apply Kd.R_drew)); exact (Kd.R_mono (Kd.R_far (p := ⟨gb195, 0, none⟩) (Kd.R_types HO216.out BK195.out (by decide)) (fun _ hk => hk.2) (.slice Ao277 t214.length co277)) (fun _ h_ => h_.1)))); (case side2 => exact (Kd.R_reads' HO216.out).2.1); rintro e w279 ⟨rfl, hb⟩; refine ⟨_, rfl, ?_⟩; replace HO194 := Aside0.mk (Kd.R_below (by (with_reducible repeat (first | apply Kd.R_alloc | apply Kd.R_drewN | apply Kd.R_drew)); exact (Kd.R_mono (Kd.R_far (p := ⟨gb195, 0, none⟩) (Kd.R_types HO194.out BK195.out (by decide)) (fun _ hk => hk.2) (.slice Ao277 t214.length co277)) (fun _ h_ => h_.1))) hb); replace HO216 := Aside0.mk (Kd.R_below (by (with_reducible repeat (first | apply Kd.R_alloc | apply Kd.R_drewN | apply Kd.R_drew)); exact (Kd.R_mono (Kd.R_far (p := ⟨gb195, 0, none⟩) (Kd.R_types HO216.out BK195.out (by decide)) (fun _ hk => hk.2) (.slice Ao277 t214.length co277)) (fun _ h_ => h_.1))) hb); replace BK183 := bkF BK183 NB183_195 hb; replace BK184 := bkF BK184 NB184_195 hb; replace BK185 := bkF BK185 NB185_195 hb; replace BK195 := Aside0.mk (blk_below (g := gb195) (o := .cells #[.slice Ao277 t214.length co277] 30 (0, 0)) (by (with_reducible repeat (first | refine blk_drewN ?_ _ | refine blk_drew ?_ | refine blk_alloc ?_ _)); refine blk_put (cs := #[.slice Ao267 y192.length co267]) ?_ 0 _ rfl; (with_reducible repeat (first | refine blk_drewN ?_ _ | refine blk_drew ?_ | refine blk_alloc ?_ _)); exact BK195.out) hb); replace HB := Aside0.mk (below_step t6_ hb); (try clear hb); (try clear hb2); (try clear hk); (try clear hi); have hcz280_0 := bc0 BK185; have hfz280_0 := bf BK185 0))
                    refine bodyPost_ret (results_ct rfl _ _ gb185 30 #[.slice none 0 0] (0, 0) _ rfl (by (with_reducible repeat (first | refine blk_drewN ?_ _ | refine blk_drew ?_ | refine blk_alloc ?_ _)); refine blk_put (cs := #[.slice none 0 0]) ?_ 0 _ rfl; (with_reducible repeat (first | refine blk_drewN ?_ _ | refine blk_drew ?_ | refine blk_alloc ?_ _)); exact BK185.out) Try.underlying30 rfl (by kernel_rfl)) rfl ?_
                    exact ⟨_, by first | rfl | (simp [errW_none, errW_some] <;> rfl) | (simp [*, errW_none, errW_some] <;> rfl), by first | exact Kd.R_nil _ _ _ _ _ | exact Kd.N_nil _ _ _ _ _ | exact Kd.V_nil _ _ _ _ _ | exact Kd.Q_nil _ _ _ _ _ | exact Kd.S_nil _ _ _ _ _, t6_⟩
                · rw [if_neg c236] at H
                  have c236b0 : (a1_0 == 4) = false := beq_eq_false_iff_ne.mpr c236
                  have c236b1 : (a1_0 != 4) = true := bne_iff_ne.mpr c236
                  replace H := Option.bind_eq_some_iff.mp H
                  obtain ⟨t218, A2810, H⟩ := H
                  replace H : (if t218 = true then (some (y192, true)) else (some (([] : List (S71)), false))) = some (r1, r2) := H
                  have A281 := Aside0.mk A2810
                  clear A2810
                  by_cases c282 : t218 = true
                  · subst c282
                    have H1 : (some (y192, true)) = some (r1, r2) := by rw [if_pos rfl] at H; exact H
                    clear H
                    have H := H1
                    clear H1
                    simp only [Option.some.injEq, Prod.mk.injEq] at H
                    obtain ⟨rfl, rfl⟩ := H
                    go_wp2_with (first | ((with_reducible refine gate_dst (N := 31) rfl ?_); refine Kd.R_lit k71 _ 71 ?hg (N := 31) ?hd (xs := ([] : List (S71))) (inner := []) (ok := fun _ => True) (okp := fun _ => True) ?hr ?hp (fun _ hk => hk) trivial (Below.refl _ _) (Nat.le_refl _) (by simp) ?_; (case hd => rfl); (case hg => rfl); (case hr => first | (go_simp; done) | (go_simp; rfl)); (case hp => exact (Reps.none _ _)); intro v190 w283 ho284 hb hg_ hnew_; clear hg_ hnew_; (first | rw [← Ny189.out] at ho284 | (simp only [Int.reduceToNat] at ho284; rw [← Ny189.out] at ho284)); have HO191 := Aside0.mk (Kd.R_lower ho284 (below_size t1_)); replace BK183 := bkN BK183 hb; replace BK184 := bkN BK184 hb; replace BK185 := bkN BK185 hb; replace HB := Aside0.mk (below_step t1_ hb); clear hb ho284; have hnb285 := NB183_184.out; have hnc285 := NB184_183.out; have hnb286 := NB183_185.out; have hnc286 := NB185_183.out; have hcz287_0 := bc0 BK183; have hfz287_0 := bf BK183 0) | ((with_reducible refine gate_builtin (b := .append) (xs := #[.tmp 31, .tmp 33]) rfl ?_); at_builtin; refine Kd.R_append_rows k71 (w0 := w) w.heap.size rfl (.tmp 31) (.tmp 33) 28 71 (.agg #[(.string ⟨#[]⟩), (.string ⟨#[]⟩)]) 32 rfl Try.underlying28 info71 rfl (by decide) (by omega) v190 y189 l0_0 _ _ _ (fun _ => True) (fun _ => False) rfl rfl ?aO ?aR (fun _ _ h => h) (fun _ h => h.elim) ?aF ?aB ?aS ?aL ?_; (case aR => exact cB HR0_0 HB); (case aB => exact t1_); (case aF => exact (fun _ _ => trivial)); (case aO => exact t47_); (case aS => exact (below_size t1_)); (case aL => have := LMc45.out; omega); intro v193 w288 ho hb hg hat; rw [← Ny192.out] at ho; have n0_ := Aside0.mk (blk_grown (g := gb183) (o := .cells #[.slice A0_0 l0_0.length c0_0] 30 (0, 0)) t39_ hg (Kd.R_ne HO191.out BK183.out (by decide))); have n1_ := Aside0.mk (blk_grown (g := gb184) (o := .cells #[.int .i64 a1_0, .string a1_1, .string a1_2, .string a1_3] 65 (0, 0)) t40_ hg (Kd.R_ne HO191.out BK184.out (by decide))); have n2_ := Aside0.mk (blk_grown (g := gb185) (o := .cells #[.slice none 0 0] 30 (0, 0)) t41_ hg (Kd.R_ne HO191.out BK185.out (by decide))); have n3_ := Aside0.mk (hb); have n4_ := Aside0.mk (ho); clear BK183; clear BK184; clear BK185; clear HB; clear HO191; have BK183 := n0_; have BK184 := n1_; have BK185 := n2_; have HB := n3_; have HO194 := n4_; clear n0_ n1_ n2_ n3_ n4_; clear ho hb hg hat; obtain ⟨Ao289, co289, eo289⟩ := Kd.R_slice HO194.out; subst eo289) | ((with_reducible refine gate_dst (N := 7) rfl ?_); refine boxE (N := 7) (cs := #[.slice none 0 0]) (t := 30) (h := ?_); intro gb195 hg w290 hbox hb; replace HO194 := Aside0.mk (Kd.R_below t25_ hb); have BK195 := Aside0.mk (hbox); have GW195 := Aside0.mk ((t15_ : w.heap.size ≤ gb195)); have GE195 := Aside0.mk ((t15_ : w.heap.size ≤ gb195)); replace HB := Aside0.mk (below_step t1_ hb); have NB183_195 := nbL BK183 hg; have NB195_183 := nbG BK183 hg; replace BK183 := bkN BK183 hb; have NB184_195 := nbL BK184 hg; have NB195_184 := nbG BK184 hg; replace BK184 := bkN BK184 hb; have NB185_195 := nbL BK185 hg; have NB195_185 := nbG BK185 hg; replace BK185 := bkN BK185 hb; clear hb hbox hg; have hnb291 := NB195_183.out; have hnc291 := NB183_195.out; have hnb292 := NB195_184.out; have hnc292 := NB184_195.out; have hnb293 := NB195_185.out; have hnc293 := NB185_195.out; have hcz294_0 := bc0 BK195; have hfz294_0 := bf BK195 0; have hnb295 := NB184_185.out; have hnc295 := NB185_184.out; have hcz296_0 := bc0 BK184; have hcz296_1 := bc1 BK184; have hcz296_2 := bc2 BK184; have hcz296_3 := bc3 BK184; have hfz296_0 := bf BK184 0; have hfz296_1 := bf BK184 1; have hfz296_2 := bf BK184 2; have hfz296_3 := bf BK184 3) | ((with_reducible refine gate_callee (f := 56) rfl ?_); refine goesL_ (some 89) rfl rfl Try.func56 (by kernel_rfl) rfl #[.agg #[.slice Ao289 y192.length co289]] rfl t2_ ?_; (with_reducible refine (spec_DiskOk.calls kj3 _ _ y192 true _ ?side1 ?side2 A281.out).mono ?_); (case side1 => refine (Kd.R_reads' (e := 71) (base := w.heap.size) (ok := fun k_ => True) (n := y192.length) (c := co289) ?_).2.2; exact (by (with_reducible repeat (first | apply Kd.R_alloc | apply Kd.R_drewN | apply Kd.R_drew)); exact (Kd.R_mono (Kd.R_far (p := ⟨gb195, 0, none⟩) (Kd.R_types HO194.out BK195.out (by decide)) (fun _ hk => hk.2) (.slice Ao289 y192.length co289)) (fun _ h_ => h_.1)))); (case side2 => exact (Kd.R_reads' HO194.out).2.1); rintro e w297 ⟨rfl, hb⟩; refine ⟨_, rfl, ?_⟩; replace HO194 := Aside0.mk (Kd.R_below (by (with_reducible repeat (first | apply Kd.R_alloc | apply Kd.R_drewN | apply Kd.R_drew)); exact (Kd.R_mono (Kd.R_far (p := ⟨gb195, 0, none⟩) (Kd.R_types HO194.out BK195.out (by decide)) (fun _ hk => hk.2) (.slice Ao289 y192.length co289)) (fun _ h_ => h_.1))) hb); replace BK183 := bkF BK183 NB183_195 hb; replace BK184 := bkF BK184 NB184_195 hb; replace BK185 := bkF BK185 NB185_195 hb; replace BK195 := Aside0.mk (blk_below (g := gb195) (o := .cells #[.slice Ao289 y192.length co289] 30 (0, 0)) (by (with_reducible repeat (first | refine blk_drewN ?_ _ | refine blk_drew ?_ | refine blk_alloc ?_ _)); refine blk_put (cs := #[.slice none 0 0]) ?_ 0 _ rfl; (with_reducible repeat (first | refine blk_drewN ?_ _ | refine blk_drew ?_ | refine blk_alloc ?_ _)); exact BK195.out) hb); replace HB := Aside0.mk (below_step t6_ hb); (try clear hb); (try clear hb2); (try clear hk); (try clear hi); have hcz298_0 := bc0 BK195; have hfz298_0 := bf BK195 0; have hcz299_0 := bc0 BK185; have hfz299_0 := bf BK185 0))
                    refine bodyPost_ret (results_ct rfl _ _ gb185 30 #[.slice Ao289 y192.length co289] (0, 0) _ rfl (by (with_reducible repeat (first | refine blk_drewN ?_ _ | refine blk_drew ?_ | refine blk_alloc ?_ _)); refine blk_put (cs := #[.slice none 0 0]) ?_ 0 _ rfl; (with_reducible repeat (first | refine blk_drewN ?_ _ | refine blk_drew ?_ | refine blk_alloc ?_ _)); exact BK185.out) Try.underlying30 rfl (by kernel_rfl)) rfl ?_
                    exact ⟨_, by first | rfl | (simp [errW_none, errW_some] <;> rfl) | (simp [*, errW_none, errW_some] <;> rfl), by (with_reducible repeat (first | apply Kd.R_alloc | apply Kd.R_drewN | apply Kd.R_drew)); exact Kd.R_mono (Kd.R_far (p := ⟨gb185, 0, none⟩) (Kd.R_types HO194.out BK185.out (by decide)) (fun _ hk => hk.2) (.slice Ao289 y192.length co289)) (fun _ hk => trivial), t6_⟩
                  · replace c282 := Bool.eq_false_iff.mpr c282
                    subst c282
                    have H1 : (some (([] : List (S71)), false)) = some (r1, r2) := by rw [if_neg (show ¬ (false = true) by decide)] at H; exact H
                    clear H
                    have H := H1
                    clear H1
                    simp only [Option.some.injEq, Prod.mk.injEq] at H
                    obtain ⟨rfl, rfl⟩ := H
                    go_wp2_with (first | ((with_reducible refine gate_dst (N := 31) rfl ?_); refine Kd.R_lit k71 _ 71 ?hg (N := 31) ?hd (xs := ([] : List (S71))) (inner := []) (ok := fun _ => True) (okp := fun _ => True) ?hr ?hp (fun _ hk => hk) trivial (Below.refl _ _) (Nat.le_refl _) (by simp) ?_; (case hd => rfl); (case hg => rfl); (case hr => first | (go_simp; done) | (go_simp; rfl)); (case hp => exact (Reps.none _ _)); intro v190 w300 ho301 hb hg_ hnew_; clear hg_ hnew_; (first | rw [← Ny189.out] at ho301 | (simp only [Int.reduceToNat] at ho301; rw [← Ny189.out] at ho301)); have HO191 := Aside0.mk (Kd.R_lower ho301 (below_size t1_)); replace BK183 := bkN BK183 hb; replace BK184 := bkN BK184 hb; replace BK185 := bkN BK185 hb; replace HB := Aside0.mk (below_step t1_ hb); clear hb ho301; have hnb302 := NB183_184.out; have hnc302 := NB184_183.out; have hnb303 := NB183_185.out; have hnc303 := NB185_183.out; have hcz304_0 := bc0 BK183; have hfz304_0 := bf BK183 0) | ((with_reducible refine gate_builtin (b := .append) (xs := #[.tmp 31, .tmp 33]) rfl ?_); at_builtin; refine Kd.R_append_rows k71 (w0 := w) w.heap.size rfl (.tmp 31) (.tmp 33) 28 71 (.agg #[(.string ⟨#[]⟩), (.string ⟨#[]⟩)]) 32 rfl Try.underlying28 info71 rfl (by decide) (by omega) v190 y189 l0_0 _ _ _ (fun _ => True) (fun _ => False) rfl rfl ?aO ?aR (fun _ _ h => h) (fun _ h => h.elim) ?aF ?aB ?aS ?aL ?_; (case aR => exact cB HR0_0 HB); (case aB => exact t1_); (case aF => exact (fun _ _ => trivial)); (case aO => exact t47_); (case aS => exact (below_size t1_)); (case aL => have := LMc45.out; omega); intro v193 w305 ho hb hg hat; rw [← Ny192.out] at ho; have n0_ := Aside0.mk (blk_grown (g := gb183) (o := .cells #[.slice A0_0 l0_0.length c0_0] 30 (0, 0)) t39_ hg (Kd.R_ne HO191.out BK183.out (by decide))); have n1_ := Aside0.mk (blk_grown (g := gb184) (o := .cells #[.int .i64 a1_0, .string a1_1, .string a1_2, .string a1_3] 65 (0, 0)) t40_ hg (Kd.R_ne HO191.out BK184.out (by decide))); have n2_ := Aside0.mk (blk_grown (g := gb185) (o := .cells #[.slice none 0 0] 30 (0, 0)) t41_ hg (Kd.R_ne HO191.out BK185.out (by decide))); have n3_ := Aside0.mk (hb); have n4_ := Aside0.mk (ho); clear BK183; clear BK184; clear BK185; clear HB; clear HO191; have BK183 := n0_; have BK184 := n1_; have BK185 := n2_; have HB := n3_; have HO194 := n4_; clear n0_ n1_ n2_ n3_ n4_; clear ho hb hg hat; obtain ⟨Ao306, co306, eo306⟩ := Kd.R_slice HO194.out; subst eo306) | ((with_reducible refine gate_dst (N := 7) rfl ?_); refine boxE (N := 7) (cs := #[.slice none 0 0]) (t := 30) (h := ?_); intro gb195 hg w307 hbox hb; replace HO194 := Aside0.mk (Kd.R_below t25_ hb); have BK195 := Aside0.mk (hbox); have GW195 := Aside0.mk ((t15_ : w.heap.size ≤ gb195)); have GE195 := Aside0.mk ((t15_ : w.heap.size ≤ gb195)); replace HB := Aside0.mk (below_step t1_ hb); have NB183_195 := nbL BK183 hg; have NB195_183 := nbG BK183 hg; replace BK183 := bkN BK183 hb; have NB184_195 := nbL BK184 hg; have NB195_184 := nbG BK184 hg; replace BK184 := bkN BK184 hb; have NB185_195 := nbL BK185 hg; have NB195_185 := nbG BK185 hg; replace BK185 := bkN BK185 hb; clear hb hbox hg; have hnb308 := NB195_183.out; have hnc308 := NB183_195.out; have hnb309 := NB195_184.out; have hnc309 := NB184_195.out; have hnb310 := NB195_185.out; have hnc310 := NB185_195.out; have hcz311_0 := bc0 BK195; have hfz311_0 := bf BK195 0; have hnb312 := NB184_185.out; have hnc312 := NB185_184.out; have hcz313_0 := bc0 BK184; have hcz313_1 := bc1 BK184; have hcz313_2 := bc2 BK184; have hcz313_3 := bc3 BK184; have hfz313_0 := bf BK184 0; have hfz313_1 := bf BK184 1; have hfz313_2 := bf BK184 2; have hfz313_3 := bf BK184 3) | ((with_reducible refine gate_callee (f := 56) rfl ?_); refine goesL_ (some 89) rfl rfl Try.func56 (by kernel_rfl) rfl #[.agg #[.slice Ao306 y192.length co306]] rfl t2_ ?_; (with_reducible refine (spec_DiskOk.calls kj3 _ _ y192 false _ ?side1 ?side2 A281.out).mono ?_); (case side1 => refine (Kd.R_reads' (e := 71) (base := w.heap.size) (ok := fun k_ => True) (n := y192.length) (c := co306) ?_).2.2; exact (by (with_reducible repeat (first | apply Kd.R_alloc | apply Kd.R_drewN | apply Kd.R_drew)); exact (Kd.R_mono (Kd.R_far (p := ⟨gb195, 0, none⟩) (Kd.R_types HO194.out BK195.out (by decide)) (fun _ hk => hk.2) (.slice Ao306 y192.length co306)) (fun _ h_ => h_.1)))); (case side2 => exact (Kd.R_reads' HO194.out).2.1); rintro e w314 ⟨rfl, hb⟩; refine ⟨_, rfl, ?_⟩; replace HO194 := Aside0.mk (Kd.R_below (by (with_reducible repeat (first | apply Kd.R_alloc | apply Kd.R_drewN | apply Kd.R_drew)); exact (Kd.R_mono (Kd.R_far (p := ⟨gb195, 0, none⟩) (Kd.R_types HO194.out BK195.out (by decide)) (fun _ hk => hk.2) (.slice Ao306 y192.length co306)) (fun _ h_ => h_.1))) hb); replace BK183 := bkF BK183 NB183_195 hb; replace BK184 := bkF BK184 NB184_195 hb; replace BK185 := bkF BK185 NB185_195 hb; replace BK195 := Aside0.mk (blk_below (g := gb195) (o := .cells #[.slice Ao306 y192.length co306] 30 (0, 0)) (by (with_reducible repeat (first | refine blk_drewN ?_ _ | refine blk_drew ?_ | refine blk_alloc ?_ _)); refine blk_put (cs := #[.slice none 0 0]) ?_ 0 _ rfl; (with_reducible repeat (first | refine blk_drewN ?_ _ | refine blk_drew ?_ | refine blk_alloc ?_ _)); exact BK195.out) hb); replace HB := Aside0.mk (below_step t6_ hb); (try clear hb); (try clear hb2); (try clear hk); (try clear hi); have hcz315_0 := bc0 BK185; have hfz315_0 := bf BK185 0))
                    refine bodyPost_ret (results_ct rfl _ _ gb185 30 #[.slice none 0 0] (0, 0) _ rfl (by (with_reducible repeat (first | refine blk_drewN ?_ _ | refine blk_drew ?_ | refine blk_alloc ?_ _)); refine blk_put (cs := #[.slice none 0 0]) ?_ 0 _ rfl; (with_reducible repeat (first | refine blk_drewN ?_ _ | refine blk_drew ?_ | refine blk_alloc ?_ _)); exact BK185.out) Try.underlying30 rfl (by kernel_rfl)) rfl ?_
                    exact ⟨_, by first | rfl | (simp [errW_none, errW_some] <;> rfl) | (simp [*, errW_none, errW_some] <;> rfl), by first | exact Kd.R_nil _ _ _ _ _ | exact Kd.N_nil _ _ _ _ _ | exact Kd.V_nil _ _ _ _ _ | exact Kd.Q_nil _ _ _ _ _ | exact Kd.S_nil _ _ _ _ _, t6_⟩
        · rw [if_neg c45] at H
          exact absurd H (by simp)

end Go.Proofs.Ytpjhbhjmaggheaa.QFnExactPutRaw
