-- By a program of this session, over the kit's print.
import Derived.Test.YtpjhbhjmaggheaaQFnExactMapBetweenx0
import Derived.Test.YtpjhbhjmaggheaaQFnExactMapBetweenx1
namespace Go.Proofs.Ytpjhbhjmaggheaa.QFnExactMapBetween
open Go.RowKit Go.Proofs.YtpjhbhjmaggheaaW.PrintWords Go.Proofs.YtpjhbhjmaggheaaW.PrintLast Go.Proofs.YtpjhbhjmaggheaaW.PrintMore
attribute [local go_sem] max2_int min2_int max_two min_two max_three min_three max_four min_four   -- for this text's walks alone
set_option linter.unusedVariables false
set_option linter.unusedSimpArgs false

/-! ### impl_MapBetween: function 24 -/
mutual
def impl_MapBetween.j0 : Nat → List (S59) → List (S59) → Bool → Option ((List (S109)) × Bool)
  | 0, _, _, _ => none
  | k + 1, x0, x1, x22 => if x22 = true then (some (([] : List (S109)), false)) else (impl_MapBetween.l0 k x0 x1 ([] : List (S109)) x0 (x0.length : Int) 0)
def impl_MapBetween.l0 : Nat → List (S59) → List (S59) → List (S109) → List (S59) → Int → Int → Option ((List (S109)) × Bool)
  | 0, _, _, _, _, _, _ => none
  | k + 1, x0, x1, x6, x23, x24, x25 => if x25 < x24 then (if 0 ≤ x25 then (if x25 < (x23.length : Int) then ((impl_pairNo.f x1 ((rd_T59 x23 x25).f0)).bind fun bt113 => (if bt113.2 = true then (impl_MapBetween.l0 k x0 x1 x6 x23 x24 (wrap64 (x25 + 1))) else (if x6.length < 3518437208883 then (impl_MapBetween.l0 k x0 x1 (x6 ++ [(⟨(rd_T59 x23 x25).f0, (⟨#[]⟩ : ByteArray), true⟩ : S109)]) x23 x24 (wrap64 (x25 + 1))) else (none)))) else (none)) else (none)) else (impl_MapBetween.l1 k x0 x6 x1 (x1.length : Int) 0)
def impl_MapBetween.l1 : Nat → List (S59) → List (S109) → List (S59) → Int → Int → Option ((List (S109)) × Bool)
  | 0, _, _, _, _, _ => none
  | k + 1, x0, x6, x45, x46, x47 => if x47 < x46 then (if 0 ≤ x47 then (if x47 < (x45.length : Int) then ((impl_pairNo.f x0 ((rd_T59 x45 x47).f0)).bind fun bt120 => (if bt120.2 = true then (if 0 ≤ bt120.1 then (if bt120.1 < (x0.length : Int) then (if ((rd_T59 x0 bt120.1).f1).toList = ((rd_T59 x45 x47).f1).toList then (impl_MapBetween.l1 k x0 x6 x45 x46 (wrap64 (x47 + 1))) else (if x6.length < 3518437208883 then (impl_MapBetween.l1 k x0 (x6 ++ [(⟨(rd_T59 x45 x47).f0, (rd_T59 x45 x47).f1, false⟩ : S109)]) x45 x46 (wrap64 (x47 + 1))) else (none))) else (none)) else (none)) else (if x6.length < 3518437208883 then (impl_MapBetween.l1 k x0 (x6 ++ [(⟨(rd_T59 x45 x47).f0, (rd_T59 x45 x47).f1, false⟩ : S109)]) x45 x46 (wrap64 (x47 + 1))) else (none)))) else (none)) else (none)) else (if (x6.length : Int) > 60 then (some (([] : List (S109)), false)) else ((impl_Change.f x6 ()).bind fun t129 => (some (t129, true))))
end
def impl_MapBetween.f (k : Nat) (l0 : List (S59)) (l1 : List (S59)) : Option ((List (S109)) × Bool) := (impl_MapOk.f k l0).bind fun t109 => (if t109 = true then ((impl_MapOk.f k l1).bind fun t110 => (impl_MapBetween.j0 k l0 l1 (!t110))) else (impl_MapBetween.j0 k l0 l1 true))
theorem impl_MapBetween.mono_l : ∀ k, (∀ y0 y1 y2, LeO (impl_MapBetween.j0 k y0 y1 y2) (impl_MapBetween.j0 (k + 1) y0 y1 y2)) ∧ (∀ y0 y1 y2 y3 y4 y5, LeO (impl_MapBetween.l0 k y0 y1 y2 y3 y4 y5) (impl_MapBetween.l0 (k + 1) y0 y1 y2 y3 y4 y5)) ∧ (∀ y0 y1 y2 y3 y4, LeO (impl_MapBetween.l1 k y0 y1 y2 y3 y4) (impl_MapBetween.l1 (k + 1) y0 y1 y2 y3 y4))
  | 0 => ⟨fun _ _ _ r h => by simp [impl_MapBetween.j0] at h, fun _ _ _ _ _ _ r h => by simp [impl_MapBetween.l0] at h, fun _ _ _ _ _ r h => by simp [impl_MapBetween.l1] at h⟩
  | k + 1 => by
    obtain ⟨ih0, ih1, ih2⟩ := impl_MapBetween.mono_l k
    refine ⟨?_, ?_, ?_⟩
    · intro y0 y1 y2
      unfold impl_MapBetween.j0
      repeat' first
      | (with_reducible exact ih0 _ _ _)
      | (with_reducible exact ih1 _ _ _ _ _ _)
      | (with_reducible exact ih2 _ _ _ _ _)
      | (with_reducible exact impl_MapOk.mono _ _)
      | (with_reducible exact LeO.refl _)
      | (with_reducible exact LeO.none _)
      | (with_reducible refine LeO.ite ?_ ?_)
      | (with_reducible refine LeO.bind ?_ (fun _ => ?_))
      | exact ih0 _ _ _
      | exact ih1 _ _ _ _ _ _
      | exact ih2 _ _ _ _ _
      | exact impl_MapOk.mono _ _
      | exact LeO.none _
      | refine LeO.ite ?_ ?_
      | refine LeO.bind ?_ (fun _ => ?_)
    · intro y0 y1 y2 y3 y4 y5
      unfold impl_MapBetween.l0
      repeat' first
      | (with_reducible exact ih0 _ _ _)
      | (with_reducible exact ih1 _ _ _ _ _ _)
      | (with_reducible exact ih2 _ _ _ _ _)
      | (with_reducible exact impl_MapOk.mono _ _)
      | (with_reducible exact LeO.refl _)
      | (with_reducible exact LeO.none _)
      | (with_reducible refine LeO.ite ?_ ?_)
      | (with_reducible refine LeO.bind ?_ (fun _ => ?_))
      | exact ih0 _ _ _
      | exact ih1 _ _ _ _ _ _
      | exact ih2 _ _ _ _ _
      | exact impl_MapOk.mono _ _
      | exact LeO.none _
      | refine LeO.ite ?_ ?_
      | refine LeO.bind ?_ (fun _ => ?_)
    · intro y0 y1 y2 y3 y4
      unfold impl_MapBetween.l1
      repeat' first
      | (with_reducible exact ih0 _ _ _)
      | (with_reducible exact ih1 _ _ _ _ _ _)
      | (with_reducible exact ih2 _ _ _ _ _)
      | (with_reducible exact impl_MapOk.mono _ _)
      | (with_reducible exact LeO.refl _)
      | (with_reducible exact LeO.none _)
      | (with_reducible refine LeO.ite ?_ ?_)
      | (with_reducible refine LeO.bind ?_ (fun _ => ?_))
      | exact ih0 _ _ _
      | exact ih1 _ _ _ _ _ _
      | exact ih2 _ _ _ _ _
      | exact impl_MapOk.mono _ _
      | exact LeO.none _
      | refine LeO.ite ?_ ?_
      | refine LeO.bind ?_ (fun _ => ?_)
theorem impl_MapBetween.mono : ∀ a0 a1 k, LeO (impl_MapBetween.f k a0 a1) (impl_MapBetween.f (k + 1) a0 a1) := by
  intro a0 a1 k
  obtain ⟨ih0, ih1, ih2⟩ := impl_MapBetween.mono_l k
  unfold impl_MapBetween.f
  repeat' first
      | (with_reducible exact ih0 _ _ _)
      | (with_reducible exact ih1 _ _ _ _ _ _)
      | (with_reducible exact ih2 _ _ _ _ _)
      | (with_reducible exact impl_MapOk.mono _ _)
      | (with_reducible exact LeO.refl _)
      | (with_reducible exact LeO.none _)
      | (with_reducible refine LeO.ite ?_ ?_)
      | (with_reducible refine LeO.bind ?_ (fun _ => ?_))
      | exact ih0 _ _ _
      | exact ih1 _ _ _ _ _ _
      | exact ih2 _ _ _ _ _
      | exact impl_MapOk.mono _ _
      | exact LeO.none _
      | refine LeO.ite ?_ ?_
      | refine LeO.bind ?_ (fun _ => ?_)
set_option maxHeartbeats 8000000 in
set_option maxRecDepth 100000 in
theorem impl_MapBetween.calls (k : Nat) (A0 : Option Addr) (c0 : Nat) (l0 : List (S59)) (A1 : Option Addr) (c1 : Nat) (l1 : List (S59)) (r1 : List (S109)) (r2 : Bool) (w : World) (hr0 : Kd.C k59 w A0 l0.length l0) (hc0 : l0.length ≤ c0) (hr1 : Kd.C k59 w A1 l1.length l1) (hc1 : l1.length ≤ c1) (h : impl_MapBetween.f k l0 l1 = some (r1, r2)) :
    Calls Try.prog 24 #[.slice A0 l0.length c0, .slice A1 l1.length c1] w fun e w' => ∃ v0_ : Value, e = .returned (.tuple #[v0_, .bool r2]) ∧ Kd.R k109 109 w' w.heap.size (fun _ => True) v0_ r1 ∧ Below w.heap.size w w' := by
  have hu59 := Try.underlying59
  have hu109 := Try.underlying109
  have HR0 := Aside0.mk hr0
  have HC0 := Aside0.mk hc0
  clear hr0 hc0
  have HR1 := Aside0.mk hr1
  have HC1 := Aside0.mk hc1
  clear hr1 hc1
  have HB := Aside0.mk (Below.refl w.heap.size w)
  have H : ((impl_MapOk.f k l0).bind fun t109 => (if t109 = true then ((impl_MapOk.f k l1).bind fun t110 => (impl_MapBetween.j0 k l0 l1 (!t110))) else (impl_MapBetween.j0 k l0 l1 true))) = some (r1, r2) := h
  clear h
  have HC3 := Aside0.mk H
  clear H
  go_enter Try.func24, Try.ntmps24
  go_upto_region 1 with (fail)
  repeat (go_quiet (fail); go_upto_region 1 with (fail))
  go_cut [22] (fun v22 wc => ∃ (kq : Nat) (x22_2 : Bool), v22 = .bool x22_2 ∧ Aside0 (impl_MapBetween.j0 kq l0 l1 x22_2 = some (r1, r2)) ∧ Aside0 (kq ≤ k) ∧ Aside0 (Below w.heap.size w wc))
  case first =>
    have H := HC3.out
    clear HC3
    replace H := Option.bind_eq_some_iff.mp H
    obtain ⟨t109, A40, H⟩ := H
    replace H : (if t109 = true then ((impl_MapOk.f k l1).bind fun t110 => (impl_MapBetween.j0 k l0 l1 (!t110))) else (impl_MapBetween.j0 k l0 l1 true)) = some (r1, r2) := H
    have A4 := Aside0.mk A40
    clear A40
    by_cases c5 : t109 = true
    · subst c5
      have H1 : ((impl_MapOk.f k l1).bind fun t110 => (impl_MapBetween.j0 k l0 l1 (!t110))) = some (r1, r2) := by rw [if_pos rfl] at H; exact H
      clear H
      have H := H1
      clear H1
      replace H := Option.bind_eq_some_iff.mp H
      obtain ⟨t110, A60, H⟩ := H
      replace H : (impl_MapBetween.j0 k l0 l1 (!t110)) = some (r1, r2) := H
      have A6 := Aside0.mk A60
      clear A60
      have H' := Aside0.mk H
      clear H
      go_wp2_with (first | (go_at_call 70; (with_reducible refine (impl_MapOk.calls k _ _ l0 true _ ?side1 ?side2 A4.out).mono ?_); (case side1 => exact cB HR0 HB); (case side2 => exact HC0.out); rintro e w7 ⟨rfl, hb⟩; replace HB := Aside0.mk (below_step t0_ hb); (try clear hb); (try clear hb2); (try clear hk); (try clear hi)) | (go_at_call 70; (with_reducible refine (impl_MapOk.calls k _ _ l1 t110 _ ?side1 ?side2 A6.out).mono ?_); (case side1 => exact cB HR1 HB); (case side2 => exact HC1.out); rintro e w8 ⟨rfl, hb⟩; replace HB := Aside0.mk (below_step t0_ hb); (try clear hb); (try clear hb2); (try clear hk); (try clear hi)))
      repeat (go_quiet (first | (go_at_call 70; (with_reducible refine (impl_MapOk.calls k _ _ l0 true _ ?side1 ?side2 A4.out).mono ?_); (case side1 => exact cB HR0 HB); (case side2 => exact HC0.out); rintro e w7 ⟨rfl, hb⟩; replace HB := Aside0.mk (below_step t0_ hb); (try clear hb); (try clear hb2); (try clear hk); (try clear hi)) | (go_at_call 70; (with_reducible refine (impl_MapOk.calls k _ _ l1 t110 _ ?side1 ?side2 A6.out).mono ?_); (case side1 => exact cB HR1 HB); (case side2 => exact HC1.out); rintro e w8 ⟨rfl, hb⟩; replace HB := Aside0.mk (below_step t0_ hb); (try clear hb); (try clear hb2); (try clear hk); (try clear hi))); try go_wp2_with (first | (go_at_call 70; (with_reducible refine (impl_MapOk.calls k _ _ l0 true _ ?side1 ?side2 A4.out).mono ?_); (case side1 => exact cB HR0 HB); (case side2 => exact HC0.out); rintro e w7 ⟨rfl, hb⟩; replace HB := Aside0.mk (below_step t0_ hb); (try clear hb); (try clear hb2); (try clear hk); (try clear hi)) | (go_at_call 70; (with_reducible refine (impl_MapOk.calls k _ _ l1 t110 _ ?side1 ?side2 A6.out).mono ?_); (case side1 => exact cB HR1 HB); (case side2 => exact HC1.out); rintro e w8 ⟨rfl, hb⟩; replace HB := Aside0.mk (below_step t0_ hb); (try clear hb); (try clear hb2); (try clear hk); (try clear hi))))
      go_meet
      case rel => exact ⟨_, (!t110), t7_, H', ⟨by first | omega | exact Nat.le_refl _⟩, ⟨t0_⟩⟩
    · replace c5 := Bool.eq_false_iff.mpr c5
      subst c5
      have H1 : (impl_MapBetween.j0 k l0 l1 true) = some (r1, r2) := by rw [if_neg (show ¬ (false = true) by decide)] at H; exact H
      clear H
      have H := H1
      clear H1
      have H' := Aside0.mk H
      clear H
      go_wp2_with (first | (go_at_call 70; (with_reducible refine (impl_MapOk.calls k _ _ l0 false _ ?side1 ?side2 A4.out).mono ?_); (case side1 => exact cB HR0 HB); (case side2 => exact HC0.out); rintro e w9 ⟨rfl, hb⟩; replace HB := Aside0.mk (below_step t0_ hb); (try clear hb); (try clear hb2); (try clear hk); (try clear hi)))
      repeat (go_quiet (first | (go_at_call 70; (with_reducible refine (impl_MapOk.calls k _ _ l0 false _ ?side1 ?side2 A4.out).mono ?_); (case side1 => exact cB HR0 HB); (case side2 => exact HC0.out); rintro e w9 ⟨rfl, hb⟩; replace HB := Aside0.mk (below_step t0_ hb); (try clear hb); (try clear hb2); (try clear hk); (try clear hi))); try go_wp2_with (first | (go_at_call 70; (with_reducible refine (impl_MapOk.calls k _ _ l0 false _ ?side1 ?side2 A4.out).mono ?_); (case side1 => exact cB HR0 HB); (case side2 => exact HC0.out); rintro e w9 ⟨rfl, hb⟩; replace HB := Aside0.mk (below_step t0_ hb); (try clear hb); (try clear hb2); (try clear hk); (try clear hi))))
      go_meet
      case rel => exact ⟨_, (true), t7_, H', ⟨by first | omega | exact Nat.le_refl _⟩, ⟨t0_⟩⟩
  case rest =>
    clear HC3
    try clear c1
    try clear c2
    try clear p2
    try clear c5
    obtain ⟨kq, x22_2, rfl, HA, HJ2, HB⟩ := hcut
    cases kq with
    | zero => exact absurd HA.out (by simp [impl_MapBetween.j0])
    | succ kj2 =>
      have H := HA.out
      clear HA
      simp only [impl_MapBetween.j0] at H
      by_cases c10 : x22_2 = true
      · subst c10
        have H1 : (some (([] : List (S109)), false)) = some (r1, r2) := by rw [if_pos rfl] at H; exact H
        clear H
        have H := H1
        clear H1
        simp only [Option.some.injEq, Prod.mk.injEq] at H
        obtain ⟨rfl, rfl⟩ := H
        go_wp2
        repeat (go_quiet (fail); try go_wp2)
        go_ret2
        exact ⟨_, by first | rfl | (simp [errW_none, errW_some] <;> rfl) | (simp [*, errW_none, errW_some] <;> rfl), by first | exact Kd.R_nil _ _ _ _ _ | exact Kd.N_nil _ _ _ _ _ | exact Kd.V_nil _ _ _ _ _ | exact Kd.Q_nil _ _ _ _ _ | exact Kd.S_nil _ _ _ _ _, t0_⟩
      · replace c10 := Bool.eq_false_iff.mpr c10
        subst c10
        have H1 : (impl_MapBetween.l0 kj2 l0 l1 ([] : List (S109)) l0 (l0.length : Int) 0) = some (r1, r2) := by rw [if_neg (show ¬ (false = true) by decide)] at H; exact H
        clear H
        have H := H1
        clear H1
        have H' := Aside0.mk H
        clear H
        go_wp2
        repeat (go_quiet (fail); try go_wp2)
        go_loopg [6, 25] kj2 (fun kq v6 v25 w' => ∃ (x6_2 : List (S109)) (x25_2 : Int), v25 = .int .i64 x25_2 ∧ Aside0 (impl_MapBetween.l0 kq l0 l1 x6_2 l0 (l0.length : Int) x25_2 = some (r1, r2)) ∧ Aside0 (kq ≤ kj2) ∧ Aside0 (Kd.R k109 109 w' w.heap.size (fun _ => True) v6 x6_2) ∧ Aside0 (Below w.heap.size w w'))
        case atStart => exact ⟨(([] : List (S109))), (0), t7_, H', ⟨Nat.le_refl _⟩, ⟨by first | exact Kd.R_nil _ _ _ _ _ | exact Kd.N_nil _ _ _ _ _ | exact Kd.V_nil _ _ _ _ _ | exact Kd.Q_nil _ _ _ _ _ | exact Kd.S_nil _ _ _ _ _⟩, ⟨t0_⟩⟩
        case round =>
          clear H'
          try clear c1
          try clear c2
          try clear p2
          try clear c5
          try clear c10
          try clear p2
          obtain ⟨x6_2, x25_2, rfl, HA, HK2, HO_6, HB⟩ := hrel
          cases gk with
          | zero => exact absurd HA.out (by simp [impl_MapBetween.l0])
          | succ k2 =>
            have H := HA.out
            clear HA
            simp only [impl_MapBetween.l0] at H
            by_cases c11 : x25_2 < (l0.length : Int)
            · rw [if_pos c11] at H
              have c11b0 : decide (x25_2 < (l0.length : Int)) = true := decide_eq_true c11
              clear c11
              by_cases c12 : 0 ≤ x25_2
              · rw [if_pos c12] at H
                have c12b0 : decide (0 ≤ x25_2) = true := decide_eq_true c12
                clear c12
                by_cases c13 : x25_2 < (l0.length : Int)
                · rw [if_pos c13] at H
                  have c13b0 : decide (x25_2 < (l0.length : Int)) = true := decide_eq_true c13
                  clear c13
                  replace H := Option.bind_eq_some_iff.mp H
                  obtain ⟨⟨t113, t114⟩, A140, H⟩ := H
                  replace H : (if t114 = true then (impl_MapBetween.l0 k2 l0 l1 x6_2 l0 (l0.length : Int) (wrap64 (x25_2 + 1))) else (if x6_2.length < 3518437208883 then (impl_MapBetween.l0 k2 l0 l1 (x6_2 ++ [(⟨(rd_T59 l0 x25_2).f0, (⟨#[]⟩ : ByteArray), true⟩ : S109)]) l0 (l0.length : Int) (wrap64 (x25_2 + 1))) else (none))) = some (r1, r2) := H
                  have A14 := Aside0.mk A140
                  clear A140
                  by_cases c15 : t114 = true
                  · subst c15
                    have H1 : (impl_MapBetween.l0 k2 l0 l1 x6_2 l0 (l0.length : Int) (wrap64 (x25_2 + 1))) = some (r1, r2) := by rw [if_pos rfl] at H; exact H
                    clear H
                    have H := H1
                    clear H1
                    have H' := Aside0.mk H
                    clear H
                    have p111 : 0 ≤ (x25_2 : Int) := of_decide_eq_true t2_
                    have q111 : x25_2 < (l0.length : Int) := of_decide_eq_true t2_
                    obtain ⟨ad111, e111, hx111_0, hx111_1⟩ := at_T59 HR0.out x25_2 p111 q111
                    cases e111
                    replace hx111_0 := (HB.out.cell (World.block_lt_of_cell? w _ hx111_0)).trans hx111_0
                    replace hx111_1 := (HB.out.cell (World.block_lt_of_cell? w _ hx111_1)).trans hx111_1
                    replace p111 := eq_true p111
                    replace q111 := eq_true q111
                    go_wp2_with (first | ((with_reducible refine gate_dst (N := 8) rfl ?_); refine boxE (N := 8) (cs := #[.string (⟨#[]⟩ : ByteArray), .string (⟨#[]⟩ : ByteArray)]) (t := 59) (h := ?_); intro gb112 hg w16 hbox hb; replace HO_6 := Aside0.mk (Kd.R_below t5_ hb); have BK112 := Aside0.mk (hbox); have GW112 := Aside0.mk ((t1_ : w.heap.size ≤ gb112)); have GE112 := Aside0.mk ((t1_ : w.heap.size ≤ gb112)); replace HB := Aside0.mk (below_step t0_ hb); clear hb hbox hg; have hcz17_0 := bc0 BK112; have hcz17_1 := bc1 BK112; have hfz17_0 := bf BK112 0; have hfz17_1 := bf BK112 1) | (go_at_call 71; (with_reducible refine (impl_pairNo.calls _ _ l1 ((rd_T59 l0 x25_2).f0) t113 true _ ?side1 ?side2 A14.out).mono ?_); (case side1 => exact Kd.C_below HR1.out t6_); (case side2 => exact HC1.out); rintro e w18 ⟨rfl, hb⟩; replace HO_6 := Aside0.mk (Kd.R_below (by (with_reducible repeat (first | apply Kd.R_alloc | apply Kd.R_drewN | apply Kd.R_drew)); exact (Kd.R_mono (Kd.R_far (p := ⟨gb112, 1, none⟩) (Kd.R_far (p := ⟨gb112, 0, none⟩) (Kd.R_types HO_6.out BK112.out (by decide)) (fun _ hk => hk.2) (.string ((rd_T59 l0 x25_2).f0))) (fun _ hk => hk.2) (.string ((rd_T59 l0 x25_2).f1))) (fun _ h_ => h_.1))) hb); replace BK112 := Aside0.mk (blk_below (g := gb112) (o := .cells #[.string ((rd_T59 l0 x25_2).f0), .string ((rd_T59 l0 x25_2).f1)] 59 (0, 0)) (by (with_reducible repeat (first | refine blk_drewN ?_ _ | refine blk_drew ?_ | refine blk_alloc ?_ _)); refine blk_put (cs := #[.string ((rd_T59 l0 x25_2).f0), .string (⟨#[]⟩ : ByteArray)]) ?_ 1 _ rfl; (with_reducible repeat (first | refine blk_drewN ?_ _ | refine blk_drew ?_ | refine blk_alloc ?_ _)); refine blk_put (cs := #[.string (⟨#[]⟩ : ByteArray), .string (⟨#[]⟩ : ByteArray)]) ?_ 0 _ rfl; (with_reducible repeat (first | refine blk_drewN ?_ _ | refine blk_drew ?_ | refine blk_alloc ?_ _)); exact BK112.out) hb); replace HB := Aside0.mk (below_step t6_ hb); (try clear hb); (try clear hb2); (try clear hk); (try clear hi)))
                    repeat (go_quiet (first | ((with_reducible refine gate_dst (N := 8) rfl ?_); refine boxE (N := 8) (cs := #[.string (⟨#[]⟩ : ByteArray), .string (⟨#[]⟩ : ByteArray)]) (t := 59) (h := ?_); intro gb112 hg w16 hbox hb; replace HO_6 := Aside0.mk (Kd.R_below t5_ hb); have BK112 := Aside0.mk (hbox); have GW112 := Aside0.mk ((t1_ : w.heap.size ≤ gb112)); have GE112 := Aside0.mk ((t1_ : w.heap.size ≤ gb112)); replace HB := Aside0.mk (below_step t0_ hb); clear hb hbox hg; have hcz17_0 := bc0 BK112; have hcz17_1 := bc1 BK112; have hfz17_0 := bf BK112 0; have hfz17_1 := bf BK112 1) | (go_at_call 71; (with_reducible refine (impl_pairNo.calls _ _ l1 ((rd_T59 l0 x25_2).f0) t113 true _ ?side1 ?side2 A14.out).mono ?_); (case side1 => exact Kd.C_below HR1.out t6_); (case side2 => exact HC1.out); rintro e w18 ⟨rfl, hb⟩; replace HO_6 := Aside0.mk (Kd.R_below (by (with_reducible repeat (first | apply Kd.R_alloc | apply Kd.R_drewN | apply Kd.R_drew)); exact (Kd.R_mono (Kd.R_far (p := ⟨gb112, 1, none⟩) (Kd.R_far (p := ⟨gb112, 0, none⟩) (Kd.R_types HO_6.out BK112.out (by decide)) (fun _ hk => hk.2) (.string ((rd_T59 l0 x25_2).f0))) (fun _ hk => hk.2) (.string ((rd_T59 l0 x25_2).f1))) (fun _ h_ => h_.1))) hb); replace BK112 := Aside0.mk (blk_below (g := gb112) (o := .cells #[.string ((rd_T59 l0 x25_2).f0), .string ((rd_T59 l0 x25_2).f1)] 59 (0, 0)) (by (with_reducible repeat (first | refine blk_drewN ?_ _ | refine blk_drew ?_ | refine blk_alloc ?_ _)); refine blk_put (cs := #[.string ((rd_T59 l0 x25_2).f0), .string (⟨#[]⟩ : ByteArray)]) ?_ 1 _ rfl; (with_reducible repeat (first | refine blk_drewN ?_ _ | refine blk_drew ?_ | refine blk_alloc ?_ _)); refine blk_put (cs := #[.string (⟨#[]⟩ : ByteArray), .string (⟨#[]⟩ : ByteArray)]) ?_ 0 _ rfl; (with_reducible repeat (first | refine blk_drewN ?_ _ | refine blk_drew ?_ | refine blk_alloc ?_ _)); exact BK112.out) hb); replace HB := Aside0.mk (below_step t6_ hb); (try clear hb); (try clear hb2); (try clear hk); (try clear hi))); try go_wp2_with (first | ((with_reducible refine gate_dst (N := 8) rfl ?_); refine boxE (N := 8) (cs := #[.string (⟨#[]⟩ : ByteArray), .string (⟨#[]⟩ : ByteArray)]) (t := 59) (h := ?_); intro gb112 hg w16 hbox hb; replace HO_6 := Aside0.mk (Kd.R_below t5_ hb); have BK112 := Aside0.mk (hbox); have GW112 := Aside0.mk ((t1_ : w.heap.size ≤ gb112)); have GE112 := Aside0.mk ((t1_ : w.heap.size ≤ gb112)); replace HB := Aside0.mk (below_step t0_ hb); clear hb hbox hg; have hcz17_0 := bc0 BK112; have hcz17_1 := bc1 BK112; have hfz17_0 := bf BK112 0; have hfz17_1 := bf BK112 1) | (go_at_call 71; (with_reducible refine (impl_pairNo.calls _ _ l1 ((rd_T59 l0 x25_2).f0) t113 true _ ?side1 ?side2 A14.out).mono ?_); (case side1 => exact Kd.C_below HR1.out t6_); (case side2 => exact HC1.out); rintro e w18 ⟨rfl, hb⟩; replace HO_6 := Aside0.mk (Kd.R_below (by (with_reducible repeat (first | apply Kd.R_alloc | apply Kd.R_drewN | apply Kd.R_drew)); exact (Kd.R_mono (Kd.R_far (p := ⟨gb112, 1, none⟩) (Kd.R_far (p := ⟨gb112, 0, none⟩) (Kd.R_types HO_6.out BK112.out (by decide)) (fun _ hk => hk.2) (.string ((rd_T59 l0 x25_2).f0))) (fun _ hk => hk.2) (.string ((rd_T59 l0 x25_2).f1))) (fun _ h_ => h_.1))) hb); replace BK112 := Aside0.mk (blk_below (g := gb112) (o := .cells #[.string ((rd_T59 l0 x25_2).f0), .string ((rd_T59 l0 x25_2).f1)] 59 (0, 0)) (by (with_reducible repeat (first | refine blk_drewN ?_ _ | refine blk_drew ?_ | refine blk_alloc ?_ _)); refine blk_put (cs := #[.string ((rd_T59 l0 x25_2).f0), .string (⟨#[]⟩ : ByteArray)]) ?_ 1 _ rfl; (with_reducible repeat (first | refine blk_drewN ?_ _ | refine blk_drew ?_ | refine blk_alloc ?_ _)); refine blk_put (cs := #[.string (⟨#[]⟩ : ByteArray), .string (⟨#[]⟩ : ByteArray)]) ?_ 0 _ rfl; (with_reducible repeat (first | refine blk_drewN ?_ _ | refine blk_drew ?_ | refine blk_alloc ?_ _)); exact BK112.out) hb); replace HB := Aside0.mk (below_step t6_ hb); (try clear hb); (try clear hb2); (try clear hk); (try clear hi))))
                    go_roundg k2
                    case measure => have := HJ2.out; have := HK2.out; omega
                    case rel => exact ⟨(x6_2), (wrap64 (x25_2 + 1)), t7_, H', ⟨by have := HJ2.out; have := HK2.out; omega⟩, ⟨by (with_reducible repeat (first | apply Kd.R_alloc | apply Kd.R_drewN | apply Kd.R_drew)); exact HO_6.out⟩, ⟨t6_⟩⟩
                  · replace c15 := Bool.eq_false_iff.mpr c15
                    subst c15
                    have H1 : (if x6_2.length < 3518437208883 then (impl_MapBetween.l0 k2 l0 l1 (x6_2 ++ [(⟨(rd_T59 l0 x25_2).f0, (⟨#[]⟩ : ByteArray), true⟩ : S109)]) l0 (l0.length : Int) (wrap64 (x25_2 + 1))) else (none)) = some (r1, r2) := by rw [if_neg (show ¬ (false = true) by decide)] at H; exact H
                    clear H
                    have H := H1
                    clear H1
                    by_cases c19 : x6_2.length < 3518437208883
                    · rw [if_pos c19] at H
                      have LMc19 := Aside0.mk c19
                      clear c19
                      obtain ⟨y115, hy115⟩ : ∃ y_ : List (S109), y_ = (x6_2 ++ [(⟨(rd_T59 l0 x25_2).f0, (⟨#[]⟩ : ByteArray), true⟩ : S109)]) := ⟨_, rfl⟩
                      replace H : (impl_MapBetween.l0 k2 l0 l1 y115 l0 (l0.length : Int) (wrap64 (x25_2 + 1))) = some (r1, r2) := by first | (rw [hy115]; with_reducible exact H) | (have H2_ := (Option.bind_some _ _).symm.trans H; rw [hy115]; with_reducible exact H2_) | (have H2_ := (Option.bind_some _ _).symm.trans H; with_reducible exact H2_) | with_reducible exact H | (rw [hy115]; exact H) | exact H
                      have Ny115 := Aside0.mk hy115
                      clear hy115
                      have H' := Aside0.mk H
                      clear H
                      have p111 : 0 ≤ (x25_2 : Int) := of_decide_eq_true t2_
                      have q111 : x25_2 < (l0.length : Int) := of_decide_eq_true t2_
                      obtain ⟨ad111, e111, hx111_0, hx111_1⟩ := at_T59 HR0.out x25_2 p111 q111
                      cases e111
                      replace hx111_0 := (HB.out.cell (World.block_lt_of_cell? w _ hx111_0)).trans hx111_0
                      replace hx111_1 := (HB.out.cell (World.block_lt_of_cell? w _ hx111_1)).trans hx111_1
                      replace p111 := eq_true p111
                      replace q111 := eq_true q111
                      go_wp2_with (first | ((with_reducible refine gate_dst (N := 8) rfl ?_); refine boxE (N := 8) (cs := #[.string (⟨#[]⟩ : ByteArray), .string (⟨#[]⟩ : ByteArray)]) (t := 59) (h := ?_); intro gb112 hg w20 hbox hb; replace HO_6 := Aside0.mk (Kd.R_below t5_ hb); have BK112 := Aside0.mk (hbox); have GW112 := Aside0.mk ((t1_ : w.heap.size ≤ gb112)); have GE112 := Aside0.mk ((t1_ : w.heap.size ≤ gb112)); replace HB := Aside0.mk (below_step t0_ hb); clear hb hbox hg; have hcz21_0 := bc0 BK112; have hcz21_1 := bc1 BK112; have hfz21_0 := bf BK112 0; have hfz21_1 := bf BK112 1) | (go_at_call 71; (with_reducible refine (impl_pairNo.calls _ _ l1 ((rd_T59 l0 x25_2).f0) t113 false _ ?side1 ?side2 A14.out).mono ?_); (case side1 => exact Kd.C_below HR1.out t6_); (case side2 => exact HC1.out); rintro e w22 ⟨rfl, hb⟩; replace HO_6 := Aside0.mk (Kd.R_below (by (with_reducible repeat (first | apply Kd.R_alloc | apply Kd.R_drewN | apply Kd.R_drew)); exact (Kd.R_mono (Kd.R_far (p := ⟨gb112, 1, none⟩) (Kd.R_far (p := ⟨gb112, 0, none⟩) (Kd.R_types HO_6.out BK112.out (by decide)) (fun _ hk => hk.2) (.string ((rd_T59 l0 x25_2).f0))) (fun _ hk => hk.2) (.string ((rd_T59 l0 x25_2).f1))) (fun _ h_ => h_.1))) hb); replace BK112 := Aside0.mk (blk_below (g := gb112) (o := .cells #[.string ((rd_T59 l0 x25_2).f0), .string ((rd_T59 l0 x25_2).f1)] 59 (0, 0)) (by (with_reducible repeat (first | refine blk_drewN ?_ _ | refine blk_drew ?_ | refine blk_alloc ?_ _)); refine blk_put (cs := #[.string ((rd_T59 l0 x25_2).f0), .string (⟨#[]⟩ : ByteArray)]) ?_ 1 _ rfl; (with_reducible repeat (first | refine blk_drewN ?_ _ | refine blk_drew ?_ | refine blk_alloc ?_ _)); refine blk_put (cs := #[.string (⟨#[]⟩ : ByteArray), .string (⟨#[]⟩ : ByteArray)]) ?_ 0 _ rfl; (with_reducible repeat (first | refine blk_drewN ?_ _ | refine blk_drew ?_ | refine blk_alloc ?_ _)); exact BK112.out) hb); replace HB := Aside0.mk (below_step t6_ hb); (try clear hb); (try clear hb2); (try clear hk); (try clear hi); have hcz23_0 := bc0 BK112; have hcz23_1 := bc1 BK112; have hfz23_0 := bf BK112 0; have hfz23_1 := bf BK112 1) | ((with_reducible refine gate_builtin (b := .append) (xs := #[.tmp 38, .tmp 42]) rfl ?_); at_builtin; refine Kd.R_append k109 (w0 := w) w.heap.size rfl (.tmp 38) (.tmp 42) 46 109 (.agg #[(.string ⟨#[]⟩), (.string ⟨#[]⟩), (.bool false)]) 40 rfl Try.underlying46 info109 rfl (by decide) (by omega) u6 x6_2 (⟨(rd_T59 l0 x25_2).f0, (⟨#[]⟩ : ByteArray), true⟩ : S109) [.string ((rd_T59 l0 x25_2).f0), .string (⟨#[]⟩ : ByteArray), .bool true] (fun _ => True) (fun _ => False) rfl rfl ?aP (fun _ hk => hk.elim) ?aF ?aO ?aB ?aS ?aL ?_; (case aP => exact k109_mkM _ _ _ (⟨(rd_T59 l0 x25_2).f0, (⟨#[]⟩ : ByteArray), true⟩ : S109)); (case aB => exact t6_); (case aF => exact (fun _ _ => trivial)); (case aO => exact t5_); (case aS => exact (below_size t6_)); (case aL => have := LMc19.out; omega); intro v116 w24 ho hb hg hat; rw [← Ny115.out] at ho; have n0_ := Aside0.mk (blk_grown (g := gb112) (o := .cells #[.string ((rd_T59 l0 x25_2).f0), .string ((rd_T59 l0 x25_2).f1)] 59 (0, 0)) (by (with_reducible repeat (first | refine blk_drewN ?_ _ | refine blk_drew ?_ | refine blk_alloc ?_ _)); exact BK112.out) hg (Kd.R_ne HO_6.out BK112.out (by decide))); have n1_ := Aside0.mk (hb); have n2_ := Aside0.mk (ho); clear BK112; clear HB; clear HO_6; have BK112 := n0_; have HB := n1_; have HO117 := n2_; clear n0_ n1_ n2_; clear ho hb hg hat))
                      repeat (go_quiet (first | ((with_reducible refine gate_dst (N := 8) rfl ?_); refine boxE (N := 8) (cs := #[.string (⟨#[]⟩ : ByteArray), .string (⟨#[]⟩ : ByteArray)]) (t := 59) (h := ?_); intro gb112 hg w20 hbox hb; replace HO_6 := Aside0.mk (Kd.R_below t5_ hb); have BK112 := Aside0.mk (hbox); have GW112 := Aside0.mk ((t1_ : w.heap.size ≤ gb112)); have GE112 := Aside0.mk ((t1_ : w.heap.size ≤ gb112)); replace HB := Aside0.mk (below_step t0_ hb); clear hb hbox hg; have hcz21_0 := bc0 BK112; have hcz21_1 := bc1 BK112; have hfz21_0 := bf BK112 0; have hfz21_1 := bf BK112 1) | (go_at_call 71; (with_reducible refine (impl_pairNo.calls _ _ l1 ((rd_T59 l0 x25_2).f0) t113 false _ ?side1 ?side2 A14.out).mono ?_); (case side1 => exact Kd.C_below HR1.out t6_); (case side2 => exact HC1.out); rintro e w22 ⟨rfl, hb⟩; replace HO_6 := Aside0.mk (Kd.R_below (by (with_reducible repeat (first | apply Kd.R_alloc | apply Kd.R_drewN | apply Kd.R_drew)); exact (Kd.R_mono (Kd.R_far (p := ⟨gb112, 1, none⟩) (Kd.R_far (p := ⟨gb112, 0, none⟩) (Kd.R_types HO_6.out BK112.out (by decide)) (fun _ hk => hk.2) (.string ((rd_T59 l0 x25_2).f0))) (fun _ hk => hk.2) (.string ((rd_T59 l0 x25_2).f1))) (fun _ h_ => h_.1))) hb); replace BK112 := Aside0.mk (blk_below (g := gb112) (o := .cells #[.string ((rd_T59 l0 x25_2).f0), .string ((rd_T59 l0 x25_2).f1)] 59 (0, 0)) (by (with_reducible repeat (first | refine blk_drewN ?_ _ | refine blk_drew ?_ | refine blk_alloc ?_ _)); refine blk_put (cs := #[.string ((rd_T59 l0 x25_2).f0), .string (⟨#[]⟩ : ByteArray)]) ?_ 1 _ rfl; (with_reducible repeat (first | refine blk_drewN ?_ _ | refine blk_drew ?_ | refine blk_alloc ?_ _)); refine blk_put (cs := #[.string (⟨#[]⟩ : ByteArray), .string (⟨#[]⟩ : ByteArray)]) ?_ 0 _ rfl; (with_reducible repeat (first | refine blk_drewN ?_ _ | refine blk_drew ?_ | refine blk_alloc ?_ _)); exact BK112.out) hb); replace HB := Aside0.mk (below_step t6_ hb); (try clear hb); (try clear hb2); (try clear hk); (try clear hi); have hcz23_0 := bc0 BK112; have hcz23_1 := bc1 BK112; have hfz23_0 := bf BK112 0; have hfz23_1 := bf BK112 1) | ((with_reducible refine gate_builtin (b := .append) (xs := #[.tmp 38, .tmp 42]) rfl ?_); at_builtin; refine Kd.R_append k109 (w0 := w) w.heap.size rfl (.tmp 38) (.tmp 42) 46 109 (.agg #[(.string ⟨#[]⟩), (.string ⟨#[]⟩), (.bool false)]) 40 rfl Try.underlying46 info109 rfl (by decide) (by omega) u6 x6_2 (⟨(rd_T59 l0 x25_2).f0, (⟨#[]⟩ : ByteArray), true⟩ : S109) [.string ((rd_T59 l0 x25_2).f0), .string (⟨#[]⟩ : ByteArray), .bool true] (fun _ => True) (fun _ => False) rfl rfl ?aP (fun _ hk => hk.elim) ?aF ?aO ?aB ?aS ?aL ?_; (case aP => exact k109_mkM _ _ _ (⟨(rd_T59 l0 x25_2).f0, (⟨#[]⟩ : ByteArray), true⟩ : S109)); (case aB => exact t6_); (case aF => exact (fun _ _ => trivial)); (case aO => exact t5_); (case aS => exact (below_size t6_)); (case aL => have := LMc19.out; omega); intro v116 w24 ho hb hg hat; rw [← Ny115.out] at ho; have n0_ := Aside0.mk (blk_grown (g := gb112) (o := .cells #[.string ((rd_T59 l0 x25_2).f0), .string ((rd_T59 l0 x25_2).f1)] 59 (0, 0)) (by (with_reducible repeat (first | refine blk_drewN ?_ _ | refine blk_drew ?_ | refine blk_alloc ?_ _)); exact BK112.out) hg (Kd.R_ne HO_6.out BK112.out (by decide))); have n1_ := Aside0.mk (hb); have n2_ := Aside0.mk (ho); clear BK112; clear HB; clear HO_6; have BK112 := n0_; have HB := n1_; have HO117 := n2_; clear n0_ n1_ n2_; clear ho hb hg hat)); try go_wp2_with (first | ((with_reducible refine gate_dst (N := 8) rfl ?_); refine boxE (N := 8) (cs := #[.string (⟨#[]⟩ : ByteArray), .string (⟨#[]⟩ : ByteArray)]) (t := 59) (h := ?_); intro gb112 hg w20 hbox hb; replace HO_6 := Aside0.mk (Kd.R_below t5_ hb); have BK112 := Aside0.mk (hbox); have GW112 := Aside0.mk ((t1_ : w.heap.size ≤ gb112)); have GE112 := Aside0.mk ((t1_ : w.heap.size ≤ gb112)); replace HB := Aside0.mk (below_step t0_ hb); clear hb hbox hg; have hcz21_0 := bc0 BK112; have hcz21_1 := bc1 BK112; have hfz21_0 := bf BK112 0; have hfz21_1 := bf BK112 1) | (go_at_call 71; (with_reducible refine (impl_pairNo.calls _ _ l1 ((rd_T59 l0 x25_2).f0) t113 false _ ?side1 ?side2 A14.out).mono ?_); (case side1 => exact Kd.C_below HR1.out t6_); (case side2 => exact HC1.out); rintro e w22 ⟨rfl, hb⟩; replace HO_6 := Aside0.mk (Kd.R_below (by (with_reducible repeat (first | apply Kd.R_alloc | apply Kd.R_drewN | apply Kd.R_drew)); exact (Kd.R_mono (Kd.R_far (p := ⟨gb112, 1, none⟩) (Kd.R_far (p := ⟨gb112, 0, none⟩) (Kd.R_types HO_6.out BK112.out (by decide)) (fun _ hk => hk.2) (.string ((rd_T59 l0 x25_2).f0))) (fun _ hk => hk.2) (.string ((rd_T59 l0 x25_2).f1))) (fun _ h_ => h_.1))) hb); replace BK112 := Aside0.mk (blk_below (g := gb112) (o := .cells #[.string ((rd_T59 l0 x25_2).f0), .string ((rd_T59 l0 x25_2).f1)] 59 (0, 0)) (by (with_reducible repeat (first | refine blk_drewN ?_ _ | refine blk_drew ?_ | refine blk_alloc ?_ _)); refine blk_put (cs := #[.string ((rd_T59 l0 x25_2).f0), .string (⟨#[]⟩ : ByteArray)]) ?_ 1 _ rfl; (with_reducible repeat (first | refine blk_drewN ?_ _ | refine blk_drew ?_ | refine blk_alloc ?_ _)); refine blk_put (cs := #[.string (⟨#[]⟩ : ByteArray), .string (⟨#[]⟩ : ByteArray)]) ?_ 0 _ rfl; (with_reducible repeat (first | refine blk_drewN ?_ _ | refine blk_drew ?_ | refine blk_alloc ?_ _)); exact BK112.out) hb); replace HB := Aside0.mk (below_step t6_ hb); (try clear hb); (try clear hb2); (try clear hk); (try clear hi); have hcz23_0 := bc0 BK112; have hcz23_1 := bc1 BK112; have hfz23_0 := bf BK112 0; have hfz23_1 := bf BK112 1) | ((with_reducible refine gate_builtin (b := .append) (xs := #[.tmp 38, .tmp 42]) rfl ?_); at_builtin; refine Kd.R_append k109 (w0 := w) w.heap.size rfl (.tmp 38) (.tmp 42) 46 109 (.agg #[(.string ⟨#[]⟩), (.string ⟨#[]⟩), (.bool false)]) 40 rfl Try.underlying46 info109 rfl (by decide) (by omega) u6 x6_2 (⟨(rd_T59 l0 x25_2).f0, (⟨#[]⟩ : ByteArray), true⟩ : S109) [.string ((rd_T59 l0 x25_2).f0), .string (⟨#[]⟩ : ByteArray), .bool true] (fun _ => True) (fun _ => False) rfl rfl ?aP (fun _ hk => hk.elim) ?aF ?aO ?aB ?aS ?aL ?_; (case aP => exact k109_mkM _ _ _ (⟨(rd_T59 l0 x25_2).f0, (⟨#[]⟩ : ByteArray), true⟩ : S109)); (case aB => exact t6_); (case aF => exact (fun _ _ => trivial)); (case aO => exact t5_); (case aS => exact (below_size t6_)); (case aL => have := LMc19.out; omega); intro v116 w24 ho hb hg hat; rw [← Ny115.out] at ho; have n0_ := Aside0.mk (blk_grown (g := gb112) (o := .cells #[.string ((rd_T59 l0 x25_2).f0), .string ((rd_T59 l0 x25_2).f1)] 59 (0, 0)) (by (with_reducible repeat (first | refine blk_drewN ?_ _ | refine blk_drew ?_ | refine blk_alloc ?_ _)); exact BK112.out) hg (Kd.R_ne HO_6.out BK112.out (by decide))); have n1_ := Aside0.mk (hb); have n2_ := Aside0.mk (ho); clear BK112; clear HB; clear HO_6; have BK112 := n0_; have HB := n1_; have HO117 := n2_; clear n0_ n1_ n2_; clear ho hb hg hat)))
                      go_roundg k2
                      case measure => have := HJ2.out; have := HK2.out; omega
                      case rel => exact ⟨(y115), (wrap64 (x25_2 + 1)), t7_, H', ⟨by have := HJ2.out; have := HK2.out; omega⟩, ⟨by (with_reducible repeat (first | apply Kd.R_alloc | apply Kd.R_drewN | apply Kd.R_drew)); exact HO117.out⟩, ⟨t6_⟩⟩
                    · rw [if_neg c19] at H
                      exact absurd H (by simp)
                · rw [if_neg c13] at H
                  exact absurd H (by simp)
              · rw [if_neg c12] at H
                exact absurd H (by simp)
            · rw [if_neg c11] at H
              have c11b0 : decide (x25_2 < (l0.length : Int)) = false := decide_eq_false c11
              clear c11
              have H' := Aside0.mk H
              clear H
              go_wp2
              repeat (go_quiet (fail); try go_wp2)
              go_loopg [6, 47] k2 (fun kq v6 v47 w' => ∃ (x6_3 : List (S109)) (x47_3 : Int), v47 = .int .i64 x47_3 ∧ Aside0 (impl_MapBetween.l1 kq l0 x6_3 l1 (l1.length : Int) x47_3 = some (r1, r2)) ∧ Aside0 (kq ≤ k2) ∧ Aside0 (Kd.R k109 109 w' w.heap.size (fun _ => True) v6 x6_3) ∧ Aside0 (Below w.heap.size w w'))
              case atStart => exact ⟨(x6_2), (0), t7_, H', ⟨Nat.le_refl _⟩, ⟨by (with_reducible repeat (first | apply Kd.R_alloc | apply Kd.R_drewN | apply Kd.R_drew)); exact HO_6.out⟩, ⟨t0_⟩⟩
              case round =>
                clear H'
                try clear c1
                try clear p1
                try clear q1
                try clear hx1
                try clear c2
                try clear p2
                try clear c5
                try clear p6
                try clear c10
                try clear c11
                try clear c11b0
                try clear p11
                try clear q11
                try clear hx11
                try clear c12
                try clear c12b0
                try clear c13
                try clear c13b0
                try clear c15
                try clear c19
                try clear c24
                try clear hcz17_0
                try clear hcz17_1
                try clear hcz21_0
                try clear hcz21_1
                try clear hcz23_0
                try clear hcz23_1
                try clear hfz17_0
                try clear hfz17_1
                try clear hfz21_0
                try clear hfz21_1
                try clear hfz23_0
                try clear hfz23_1
                try clear hx111_0
                try clear hx111_1
                try clear p111
                try clear p2
                try clear q111
                obtain ⟨x6_3, x47_3, rfl, HA, HK3, HO_6, HB⟩ := hrel
                cases gk with
                | zero => exact absurd HA.out (by simp [impl_MapBetween.l1])
                | succ k3 =>
                  have H := HA.out
                  clear HA
                  simp only [impl_MapBetween.l1] at H
                  by_cases c25 : x47_3 < (l1.length : Int)
                  · rw [if_pos c25] at H
                    have c25b0 : decide (x47_3 < (l1.length : Int)) = true := decide_eq_true c25
                    clear c25
                    by_cases c26 : 0 ≤ x47_3
                    · rw [if_pos c26] at H
                      have c26b0 : decide (0 ≤ x47_3) = true := decide_eq_true c26
                      clear c26
                      by_cases c27 : x47_3 < (l1.length : Int)
                      · rw [if_pos c27] at H
                        have c27b0 : decide (x47_3 < (l1.length : Int)) = true := decide_eq_true c27
                        clear c27
                        replace H := Option.bind_eq_some_iff.mp H
                        obtain ⟨⟨t120, t121⟩, A280, H⟩ := H
                        replace H : (if t121 = true then (if 0 ≤ t120 then (if t120 < (l0.length : Int) then (if ((rd_T59 l0 t120).f1).toList = ((rd_T59 l1 x47_3).f1).toList then (impl_MapBetween.l1 k3 l0 x6_3 l1 (l1.length : Int) (wrap64 (x47_3 + 1))) else (if x6_3.length < 3518437208883 then (impl_MapBetween.l1 k3 l0 (x6_3 ++ [(⟨(rd_T59 l1 x47_3).f0, (rd_T59 l1 x47_3).f1, false⟩ : S109)]) l1 (l1.length : Int) (wrap64 (x47_3 + 1))) else (none))) else (none)) else (none)) else (if x6_3.length < 3518437208883 then (impl_MapBetween.l1 k3 l0 (x6_3 ++ [(⟨(rd_T59 l1 x47_3).f0, (rd_T59 l1 x47_3).f1, false⟩ : S109)]) l1 (l1.length : Int) (wrap64 (x47_3 + 1))) else (none))) = some (r1, r2) := H
                        have A28 := Aside0.mk A280
                        clear A280
                        by_cases c29 : t121 = true
                        · subst c29
                          have H1 : (if 0 ≤ t120 then (if t120 < (l0.length : Int) then (if ((rd_T59 l0 t120).f1).toList = ((rd_T59 l1 x47_3).f1).toList then (impl_MapBetween.l1 k3 l0 x6_3 l1 (l1.length : Int) (wrap64 (x47_3 + 1))) else (if x6_3.length < 3518437208883 then (impl_MapBetween.l1 k3 l0 (x6_3 ++ [(⟨(rd_T59 l1 x47_3).f0, (rd_T59 l1 x47_3).f1, false⟩ : S109)]) l1 (l1.length : Int) (wrap64 (x47_3 + 1))) else (none))) else (none)) else (none)) = some (r1, r2) := by rw [if_pos rfl] at H; exact H
                          clear H
                          have H := H1
                          clear H1
                          by_cases c30 : 0 ≤ t120
                          · rw [if_pos c30] at H
                            have c30b0 : decide (0 ≤ t120) = true := decide_eq_true c30
                            clear c30
                            by_cases c31 : t120 < (l0.length : Int)
                            · rw [if_pos c31] at H
                              have c31b0 : decide (t120 < (l0.length : Int)) = true := decide_eq_true c31
                              clear c31
                              by_cases c32 : ((rd_T59 l0 t120).f1).toList = ((rd_T59 l1 x47_3).f1).toList
                              · rw [if_pos c32] at H
                                have c32b0 : (((rd_T59 l0 t120).f1).toList == ((rd_T59 l1 x47_3).f1).toList) = true := beq_iff_eq.mpr c32
                                have c32b1 : (((rd_T59 l0 t120).f1).toList != ((rd_T59 l1 x47_3).f1).toList) = false := bne_eq_false_iff_eq.mpr c32
                                clear c32
                                have H' := Aside0.mk H
                                clear H
                                have p118 : 0 ≤ (x47_3 : Int) := of_decide_eq_true t2_
                                have q118 : x47_3 < (l1.length : Int) := of_decide_eq_true t2_
                                obtain ⟨ad118, e118, hx118_0, hx118_1⟩ := at_T59 HR1.out x47_3 p118 q118
                                cases e118
                                replace hx118_0 := (HB.out.cell (World.block_lt_of_cell? w _ hx118_0)).trans hx118_0
                                replace hx118_1 := (HB.out.cell (World.block_lt_of_cell? w _ hx118_1)).trans hx118_1
                                replace p118 := eq_true p118
                                replace q118 := eq_true q118
                                go_wp2_with (first | ((with_reducible refine gate_dst (N := 12) rfl ?_); refine boxE (N := 12) (cs := #[.string (⟨#[]⟩ : ByteArray), .string (⟨#[]⟩ : ByteArray)]) (t := 59) (h := ?_); intro gb119 hg w33 hbox hb; replace HO_6 := Aside0.mk (Kd.R_below t5_ hb); have BK119 := Aside0.mk (hbox); have GW119 := Aside0.mk ((t1_ : w.heap.size ≤ gb119)); have GE119 := Aside0.mk ((t1_ : w.heap.size ≤ gb119)); replace HB := Aside0.mk (below_step t0_ hb); clear hb hbox hg; have hcz34_0 := bc0 BK119; have hcz34_1 := bc1 BK119; have hfz34_0 := bf BK119 0; have hfz34_1 := bf BK119 1) | (go_at_call 71; (with_reducible refine (impl_pairNo.calls _ _ l0 ((rd_T59 l1 x47_3).f0) t120 true _ ?side1 ?side2 A28.out).mono ?_); (case side1 => exact Kd.C_below HR0.out t4_); (case side2 => exact HC0.out); rintro e w35 ⟨rfl, hb⟩; replace HO_6 := Aside0.mk (Kd.R_below (by (with_reducible repeat (first | apply Kd.R_alloc | apply Kd.R_drewN | apply Kd.R_drew)); exact (Kd.R_mono (Kd.R_far (p := ⟨gb119, 1, none⟩) (Kd.R_far (p := ⟨gb119, 0, none⟩) (Kd.R_types HO_6.out BK119.out (by decide)) (fun _ hk => hk.2) (.string ((rd_T59 l1 x47_3).f0))) (fun _ hk => hk.2) (.string ((rd_T59 l1 x47_3).f1))) (fun _ h_ => h_.1))) hb); replace BK119 := Aside0.mk (blk_below (g := gb119) (o := .cells #[.string ((rd_T59 l1 x47_3).f0), .string ((rd_T59 l1 x47_3).f1)] 59 (0, 0)) (by (with_reducible repeat (first | refine blk_drewN ?_ _ | refine blk_drew ?_ | refine blk_alloc ?_ _)); refine blk_put (cs := #[.string ((rd_T59 l1 x47_3).f0), .string (⟨#[]⟩ : ByteArray)]) ?_ 1 _ rfl; (with_reducible repeat (first | refine blk_drewN ?_ _ | refine blk_drew ?_ | refine blk_alloc ?_ _)); refine blk_put (cs := #[.string (⟨#[]⟩ : ByteArray), .string (⟨#[]⟩ : ByteArray)]) ?_ 0 _ rfl; (with_reducible repeat (first | refine blk_drewN ?_ _ | refine blk_drew ?_ | refine blk_alloc ?_ _)); exact BK119.out) hb); replace HB := Aside0.mk (below_step t4_ hb); (try clear hb); (try clear hb2); (try clear hk); (try clear hi); have p122 : 0 ≤ (t120 : Int) := of_decide_eq_true t2_; have q122 : t120 < (l0.length : Int) := of_decide_eq_true t2_; obtain ⟨ad122, e122, hx122_0, hx122_1⟩ := at_T59 HR0.out t120 p122 q122; cases e122; replace hx122_0 := (HB.out.cell (World.block_lt_of_cell? w _ hx122_0)).trans hx122_0; replace hx122_1 := (HB.out.cell (World.block_lt_of_cell? w _ hx122_1)).trans hx122_1; replace p122 := eq_true p122; replace q122 := eq_true q122; have hcz36_0 := bc0 BK119; have hcz36_1 := bc1 BK119; have hfz36_0 := bf BK119 0; have hfz36_1 := bf BK119 1))
                                repeat (go_quiet (first | ((with_reducible refine gate_dst (N := 12) rfl ?_); refine boxE (N := 12) (cs := #[.string (⟨#[]⟩ : ByteArray), .string (⟨#[]⟩ : ByteArray)]) (t := 59) (h := ?_); intro gb119 hg w33 hbox hb; replace HO_6 := Aside0.mk (Kd.R_below t5_ hb); have BK119 := Aside0.mk (hbox); have GW119 := Aside0.mk ((t1_ : w.heap.size ≤ gb119)); have GE119 := Aside0.mk ((t1_ : w.heap.size ≤ gb119)); replace HB := Aside0.mk (below_step t0_ hb); clear hb hbox hg; have hcz34_0 := bc0 BK119; have hcz34_1 := bc1 BK119; have hfz34_0 := bf BK119 0; have hfz34_1 := bf BK119 1) | (go_at_call 71; (with_reducible refine (impl_pairNo.calls _ _ l0 ((rd_T59 l1 x47_3).f0) t120 true _ ?side1 ?side2 A28.out).mono ?_); (case side1 => exact Kd.C_below HR0.out t4_); (case side2 => exact HC0.out); rintro e w35 ⟨rfl, hb⟩; replace HO_6 := Aside0.mk (Kd.R_below (by (with_reducible repeat (first | apply Kd.R_alloc | apply Kd.R_drewN | apply Kd.R_drew)); exact (Kd.R_mono (Kd.R_far (p := ⟨gb119, 1, none⟩) (Kd.R_far (p := ⟨gb119, 0, none⟩) (Kd.R_types HO_6.out BK119.out (by decide)) (fun _ hk => hk.2) (.string ((rd_T59 l1 x47_3).f0))) (fun _ hk => hk.2) (.string ((rd_T59 l1 x47_3).f1))) (fun _ h_ => h_.1))) hb); replace BK119 := Aside0.mk (blk_below (g := gb119) (o := .cells #[.string ((rd_T59 l1 x47_3).f0), .string ((rd_T59 l1 x47_3).f1)] 59 (0, 0)) (by (with_reducible repeat (first | refine blk_drewN ?_ _ | refine blk_drew ?_ | refine blk_alloc ?_ _)); refine blk_put (cs := #[.string ((rd_T59 l1 x47_3).f0), .string (⟨#[]⟩ : ByteArray)]) ?_ 1 _ rfl; (with_reducible repeat (first | refine blk_drewN ?_ _ | refine blk_drew ?_ | refine blk_alloc ?_ _)); refine blk_put (cs := #[.string (⟨#[]⟩ : ByteArray), .string (⟨#[]⟩ : ByteArray)]) ?_ 0 _ rfl; (with_reducible repeat (first | refine blk_drewN ?_ _ | refine blk_drew ?_ | refine blk_alloc ?_ _)); exact BK119.out) hb); replace HB := Aside0.mk (below_step t4_ hb); (try clear hb); (try clear hb2); (try clear hk); (try clear hi); have p122 : 0 ≤ (t120 : Int) := of_decide_eq_true t2_; have q122 : t120 < (l0.length : Int) := of_decide_eq_true t2_; obtain ⟨ad122, e122, hx122_0, hx122_1⟩ := at_T59 HR0.out t120 p122 q122; cases e122; replace hx122_0 := (HB.out.cell (World.block_lt_of_cell? w _ hx122_0)).trans hx122_0; replace hx122_1 := (HB.out.cell (World.block_lt_of_cell? w _ hx122_1)).trans hx122_1; replace p122 := eq_true p122; replace q122 := eq_true q122; have hcz36_0 := bc0 BK119; have hcz36_1 := bc1 BK119; have hfz36_0 := bf BK119 0; have hfz36_1 := bf BK119 1)); try go_wp2_with (first | ((with_reducible refine gate_dst (N := 12) rfl ?_); refine boxE (N := 12) (cs := #[.string (⟨#[]⟩ : ByteArray), .string (⟨#[]⟩ : ByteArray)]) (t := 59) (h := ?_); intro gb119 hg w33 hbox hb; replace HO_6 := Aside0.mk (Kd.R_below t5_ hb); have BK119 := Aside0.mk (hbox); have GW119 := Aside0.mk ((t1_ : w.heap.size ≤ gb119)); have GE119 := Aside0.mk ((t1_ : w.heap.size ≤ gb119)); replace HB := Aside0.mk (below_step t0_ hb); clear hb hbox hg; have hcz34_0 := bc0 BK119; have hcz34_1 := bc1 BK119; have hfz34_0 := bf BK119 0; have hfz34_1 := bf BK119 1) | (go_at_call 71; (with_reducible refine (impl_pairNo.calls _ _ l0 ((rd_T59 l1 x47_3).f0) t120 true _ ?side1 ?side2 A28.out).mono ?_); (case side1 => exact Kd.C_below HR0.out t4_); (case side2 => exact HC0.out); rintro e w35 ⟨rfl, hb⟩; replace HO_6 := Aside0.mk (Kd.R_below (by (with_reducible repeat (first | apply Kd.R_alloc | apply Kd.R_drewN | apply Kd.R_drew)); exact (Kd.R_mono (Kd.R_far (p := ⟨gb119, 1, none⟩) (Kd.R_far (p := ⟨gb119, 0, none⟩) (Kd.R_types HO_6.out BK119.out (by decide)) (fun _ hk => hk.2) (.string ((rd_T59 l1 x47_3).f0))) (fun _ hk => hk.2) (.string ((rd_T59 l1 x47_3).f1))) (fun _ h_ => h_.1))) hb); replace BK119 := Aside0.mk (blk_below (g := gb119) (o := .cells #[.string ((rd_T59 l1 x47_3).f0), .string ((rd_T59 l1 x47_3).f1)] 59 (0, 0)) (by (with_reducible repeat (first | refine blk_drewN ?_ _ | refine blk_drew ?_ | refine blk_alloc ?_ _)); refine blk_put (cs := #[.string ((rd_T59 l1 x47_3).f0), .string (⟨#[]⟩ : ByteArray)]) ?_ 1 _ rfl; (with_reducible repeat (first | refine blk_drewN ?_ _ | refine blk_drew ?_ | refine blk_alloc ?_ _)); refine blk_put (cs := #[.string (⟨#[]⟩ : ByteArray), .string (⟨#[]⟩ : ByteArray)]) ?_ 0 _ rfl; (with_reducible repeat (first | refine blk_drewN ?_ _ | refine blk_drew ?_ | refine blk_alloc ?_ _)); exact BK119.out) hb); replace HB := Aside0.mk (below_step t4_ hb); (try clear hb); (try clear hb2); (try clear hk); (try clear hi); have p122 : 0 ≤ (t120 : Int) := of_decide_eq_true t2_; have q122 : t120 < (l0.length : Int) := of_decide_eq_true t2_; obtain ⟨ad122, e122, hx122_0, hx122_1⟩ := at_T59 HR0.out t120 p122 q122; cases e122; replace hx122_0 := (HB.out.cell (World.block_lt_of_cell? w _ hx122_0)).trans hx122_0; replace hx122_1 := (HB.out.cell (World.block_lt_of_cell? w _ hx122_1)).trans hx122_1; replace p122 := eq_true p122; replace q122 := eq_true q122; have hcz36_0 := bc0 BK119; have hcz36_1 := bc1 BK119; have hfz36_0 := bf BK119 0; have hfz36_1 := bf BK119 1)))
                                go_roundg k3
                                case measure => have := HJ2.out; have := HK2.out; have := HK3.out; omega
                                case rel => exact ⟨(x6_3), (wrap64 (x47_3 + 1)), t7_, H', ⟨by have := HJ2.out; have := HK2.out; have := HK3.out; omega⟩, ⟨by (with_reducible repeat (first | apply Kd.R_alloc | apply Kd.R_drewN | apply Kd.R_drew)); exact HO_6.out⟩, ⟨t4_⟩⟩
                              · rw [if_neg c32] at H
                                have c32b0 : (((rd_T59 l0 t120).f1).toList == ((rd_T59 l1 x47_3).f1).toList) = false := beq_eq_false_iff_ne.mpr c32
                                have c32b1 : (((rd_T59 l0 t120).f1).toList != ((rd_T59 l1 x47_3).f1).toList) = true := bne_iff_ne.mpr c32
                                by_cases c37 : x6_3.length < 3518437208883
                                · rw [if_pos c37] at H
                                  have LMc37 := Aside0.mk c37
                                  clear c37
                                  obtain ⟨y123, hy123⟩ : ∃ y_ : List (S109), y_ = (x6_3 ++ [(⟨(rd_T59 l1 x47_3).f0, (rd_T59 l1 x47_3).f1, false⟩ : S109)]) := ⟨_, rfl⟩
                                  replace H : (impl_MapBetween.l1 k3 l0 y123 l1 (l1.length : Int) (wrap64 (x47_3 + 1))) = some (r1, r2) := by first | (rw [hy123]; with_reducible exact H) | (have H2_ := (Option.bind_some _ _).symm.trans H; rw [hy123]; with_reducible exact H2_) | (have H2_ := (Option.bind_some _ _).symm.trans H; with_reducible exact H2_) | with_reducible exact H | (rw [hy123]; exact H) | exact H
                                  have Ny123 := Aside0.mk hy123
                                  clear hy123
                                  have H' := Aside0.mk H
                                  clear H
                                  have p118 : 0 ≤ (x47_3 : Int) := of_decide_eq_true t2_
                                  have q118 : x47_3 < (l1.length : Int) := of_decide_eq_true t2_
                                  obtain ⟨ad118, e118, hx118_0, hx118_1⟩ := at_T59 HR1.out x47_3 p118 q118
                                  cases e118
                                  replace hx118_0 := (HB.out.cell (World.block_lt_of_cell? w _ hx118_0)).trans hx118_0
                                  replace hx118_1 := (HB.out.cell (World.block_lt_of_cell? w _ hx118_1)).trans hx118_1
                                  replace p118 := eq_true p118
                                  replace q118 := eq_true q118
                                  go_wp2_with (first | ((with_reducible refine gate_dst (N := 12) rfl ?_); refine boxE (N := 12) (cs := #[.string (⟨#[]⟩ : ByteArray), .string (⟨#[]⟩ : ByteArray)]) (t := 59) (h := ?_); intro gb119 hg w38 hbox hb; replace HO_6 := Aside0.mk (Kd.R_below t5_ hb); have BK119 := Aside0.mk (hbox); have GW119 := Aside0.mk ((t1_ : w.heap.size ≤ gb119)); have GE119 := Aside0.mk ((t1_ : w.heap.size ≤ gb119)); replace HB := Aside0.mk (below_step t0_ hb); clear hb hbox hg; have hcz39_0 := bc0 BK119; have hcz39_1 := bc1 BK119; have hfz39_0 := bf BK119 0; have hfz39_1 := bf BK119 1) | (go_at_call 71; (with_reducible refine (impl_pairNo.calls _ _ l0 ((rd_T59 l1 x47_3).f0) t120 true _ ?side1 ?side2 A28.out).mono ?_); (case side1 => exact Kd.C_below HR0.out t4_); (case side2 => exact HC0.out); rintro e w40 ⟨rfl, hb⟩; replace HO_6 := Aside0.mk (Kd.R_below (by (with_reducible repeat (first | apply Kd.R_alloc | apply Kd.R_drewN | apply Kd.R_drew)); exact (Kd.R_mono (Kd.R_far (p := ⟨gb119, 1, none⟩) (Kd.R_far (p := ⟨gb119, 0, none⟩) (Kd.R_types HO_6.out BK119.out (by decide)) (fun _ hk => hk.2) (.string ((rd_T59 l1 x47_3).f0))) (fun _ hk => hk.2) (.string ((rd_T59 l1 x47_3).f1))) (fun _ h_ => h_.1))) hb); replace BK119 := Aside0.mk (blk_below (g := gb119) (o := .cells #[.string ((rd_T59 l1 x47_3).f0), .string ((rd_T59 l1 x47_3).f1)] 59 (0, 0)) (by (with_reducible repeat (first | refine blk_drewN ?_ _ | refine blk_drew ?_ | refine blk_alloc ?_ _)); refine blk_put (cs := #[.string ((rd_T59 l1 x47_3).f0), .string (⟨#[]⟩ : ByteArray)]) ?_ 1 _ rfl; (with_reducible repeat (first | refine blk_drewN ?_ _ | refine blk_drew ?_ | refine blk_alloc ?_ _)); refine blk_put (cs := #[.string (⟨#[]⟩ : ByteArray), .string (⟨#[]⟩ : ByteArray)]) ?_ 0 _ rfl; (with_reducible repeat (first | refine blk_drewN ?_ _ | refine blk_drew ?_ | refine blk_alloc ?_ _)); exact BK119.out) hb); replace HB := Aside0.mk (below_step t4_ hb); (try clear hb); (try clear hb2); (try clear hk); (try clear hi); have p122 : 0 ≤ (t120 : Int) := of_decide_eq_true t2_; have q122 : t120 < (l0.length : Int) := of_decide_eq_true t2_; obtain ⟨ad122, e122, hx122_0, hx122_1⟩ := at_T59 HR0.out t120 p122 q122; cases e122; replace hx122_0 := (HB.out.cell (World.block_lt_of_cell? w _ hx122_0)).trans hx122_0; replace hx122_1 := (HB.out.cell (World.block_lt_of_cell? w _ hx122_1)).trans hx122_1; replace p122 := eq_true p122; replace q122 := eq_true q122; have hcz41_0 := bc0 BK119; have hcz41_1 := bc1 BK119; have hfz41_0 := bf BK119 0; have hfz41_1 := bf BK119 1) | ((with_reducible refine gate_builtin (b := .append) (xs := #[.tmp 70, .tmp 76]) rfl ?_); at_builtin; refine Kd.R_append k109 (w0 := w) w.heap.size rfl (.tmp 70) (.tmp 76) 46 109 (.agg #[(.string ⟨#[]⟩), (.string ⟨#[]⟩), (.bool false)]) 40 rfl Try.underlying46 info109 rfl (by decide) (by omega) u6 x6_3 (⟨(rd_T59 l1 x47_3).f0, (rd_T59 l1 x47_3).f1, false⟩ : S109) [.string ((rd_T59 l1 x47_3).f0), .string ((rd_T59 l1 x47_3).f1), .bool false] (fun _ => True) (fun _ => False) rfl rfl ?aP (fun _ hk => hk.elim) ?aF ?aO ?aB ?aS ?aL ?_; (case aP => exact k109_mkM _ _ _ (⟨(rd_T59 l1 x47_3).f0, (rd_T59 l1 x47_3).f1, false⟩ : S109)); (case aB => exact t4_); (case aF => exact (fun _ _ => trivial)); (case aO => exact t5_); (case aS => exact (below_size t4_)); (case aL => have := LMc37.out; omega); intro v124 w42 ho hb hg hat; rw [← Ny123.out] at ho; have n0_ := Aside0.mk (blk_grown (g := gb119) (o := .cells #[.string ((rd_T59 l1 x47_3).f0), .string ((rd_T59 l1 x47_3).f1)] 59 (0, 0)) t17_ hg (Kd.R_ne HO_6.out BK119.out (by decide))); have n1_ := Aside0.mk (hb); have n2_ := Aside0.mk (ho); clear BK119; clear HB; clear HO_6; have BK119 := n0_; have HB := n1_; have HO125 := n2_; clear n0_ n1_ n2_; clear ho hb hg hat))
                                  repeat (go_quiet (first | ((with_reducible refine gate_dst (N := 12) rfl ?_); refine boxE (N := 12) (cs := #[.string (⟨#[]⟩ : ByteArray), .string (⟨#[]⟩ : ByteArray)]) (t := 59) (h := ?_); intro gb119 hg w38 hbox hb; replace HO_6 := Aside0.mk (Kd.R_below t5_ hb); have BK119 := Aside0.mk (hbox); have GW119 := Aside0.mk ((t1_ : w.heap.size ≤ gb119)); have GE119 := Aside0.mk ((t1_ : w.heap.size ≤ gb119)); replace HB := Aside0.mk (below_step t0_ hb); clear hb hbox hg; have hcz39_0 := bc0 BK119; have hcz39_1 := bc1 BK119; have hfz39_0 := bf BK119 0; have hfz39_1 := bf BK119 1) | (go_at_call 71; (with_reducible refine (impl_pairNo.calls _ _ l0 ((rd_T59 l1 x47_3).f0) t120 true _ ?side1 ?side2 A28.out).mono ?_); (case side1 => exact Kd.C_below HR0.out t4_); (case side2 => exact HC0.out); rintro e w40 ⟨rfl, hb⟩; replace HO_6 := Aside0.mk (Kd.R_below (by (with_reducible repeat (first | apply Kd.R_alloc | apply Kd.R_drewN | apply Kd.R_drew)); exact (Kd.R_mono (Kd.R_far (p := ⟨gb119, 1, none⟩) (Kd.R_far (p := ⟨gb119, 0, none⟩) (Kd.R_types HO_6.out BK119.out (by decide)) (fun _ hk => hk.2) (.string ((rd_T59 l1 x47_3).f0))) (fun _ hk => hk.2) (.string ((rd_T59 l1 x47_3).f1))) (fun _ h_ => h_.1))) hb); replace BK119 := Aside0.mk (blk_below (g := gb119) (o := .cells #[.string ((rd_T59 l1 x47_3).f0), .string ((rd_T59 l1 x47_3).f1)] 59 (0, 0)) (by (with_reducible repeat (first | refine blk_drewN ?_ _ | refine blk_drew ?_ | refine blk_alloc ?_ _)); refine blk_put (cs := #[.string ((rd_T59 l1 x47_3).f0), .string (⟨#[]⟩ : ByteArray)]) ?_ 1 _ rfl; (with_reducible repeat (first | refine blk_drewN ?_ _ | refine blk_drew ?_ | refine blk_alloc ?_ _)); refine blk_put (cs := #[.string (⟨#[]⟩ : ByteArray), .string (⟨#[]⟩ : ByteArray)]) ?_ 0 _ rfl; (with_reducible repeat (first | refine blk_drewN ?_ _ | refine blk_drew ?_ | refine blk_alloc ?_ _)); exact BK119.out) hb); replace HB := Aside0.mk (below_step t4_ hb); (try clear hb); (try clear hb2); (try clear hk); (try clear hi); have p122 : 0 ≤ (t120 : Int) := of_decide_eq_true t2_; have q122 : t120 < (l0.length : Int) := of_decide_eq_true t2_; obtain ⟨ad122, e122, hx122_0, hx122_1⟩ := at_T59 HR0.out t120 p122 q122; cases e122; replace hx122_0 := (HB.out.cell (World.block_lt_of_cell? w _ hx122_0)).trans hx122_0; replace hx122_1 := (HB.out.cell (World.block_lt_of_cell? w _ hx122_1)).trans hx122_1; replace p122 := eq_true p122; replace q122 := eq_true q122; have hcz41_0 := bc0 BK119; have hcz41_1 := bc1 BK119; have hfz41_0 := bf BK119 0; have hfz41_1 := bf BK119 1) | ((with_reducible refine gate_builtin (b := .append) (xs := #[.tmp 70, .tmp 76]) rfl ?_); at_builtin; refine Kd.R_append k109 (w0 := w) w.heap.size rfl (.tmp 70) (.tmp 76) 46 109 (.agg #[(.string ⟨#[]⟩), (.string ⟨#[]⟩), (.bool false)]) 40 rfl Try.underlying46 info109 rfl (by decide) (by omega) u6 x6_3 (⟨(rd_T59 l1 x47_3).f0, (rd_T59 l1 x47_3).f1, false⟩ : S109) [.string ((rd_T59 l1 x47_3).f0), .string ((rd_T59 l1 x47_3).f1), .bool false] (fun _ => True) (fun _ => False) rfl rfl ?aP (fun _ hk => hk.elim) ?aF ?aO ?aB ?aS ?aL ?_; (case aP => exact k109_mkM _ _ _ (⟨(rd_T59 l1 x47_3).f0, (rd_T59 l1 x47_3).f1, false⟩ : S109)); (case aB => exact t4_); (case aF => exact (fun _ _ => trivial)); (case aO => exact t5_); (case aS => exact (below_size t4_)); (case aL => have := LMc37.out; omega); intro v124 w42 ho hb hg hat; rw [← Ny123.out] at ho; have n0_ := Aside0.mk (blk_grown (g := gb119) (o := .cells #[.string ((rd_T59 l1 x47_3).f0), .string ((rd_T59 l1 x47_3).f1)] 59 (0, 0)) t17_ hg (Kd.R_ne HO_6.out BK119.out (by decide))); have n1_ := Aside0.mk (hb); have n2_ := Aside0.mk (ho); clear BK119; clear HB; clear HO_6; have BK119 := n0_; have HB := n1_; have HO125 := n2_; clear n0_ n1_ n2_; clear ho hb hg hat)); try go_wp2_with (first | ((with_reducible refine gate_dst (N := 12) rfl ?_); refine boxE (N := 12) (cs := #[.string (⟨#[]⟩ : ByteArray), .string (⟨#[]⟩ : ByteArray)]) (t := 59) (h := ?_); intro gb119 hg w38 hbox hb; replace HO_6 := Aside0.mk (Kd.R_below t5_ hb); have BK119 := Aside0.mk (hbox); have GW119 := Aside0.mk ((t1_ : w.heap.size ≤ gb119)); have GE119 := Aside0.mk ((t1_ : w.heap.size ≤ gb119)); replace HB := Aside0.mk (below_step t0_ hb); clear hb hbox hg; have hcz39_0 := bc0 BK119; have hcz39_1 := bc1 BK119; have hfz39_0 := bf BK119 0; have hfz39_1 := bf BK119 1) | (go_at_call 71; (with_reducible refine (impl_pairNo.calls _ _ l0 ((rd_T59 l1 x47_3).f0) t120 true _ ?side1 ?side2 A28.out).mono ?_); (case side1 => exact Kd.C_below HR0.out t4_); (case side2 => exact HC0.out); rintro e w40 ⟨rfl, hb⟩; replace HO_6 := Aside0.mk (Kd.R_below (by (with_reducible repeat (first | apply Kd.R_alloc | apply Kd.R_drewN | apply Kd.R_drew)); exact (Kd.R_mono (Kd.R_far (p := ⟨gb119, 1, none⟩) (Kd.R_far (p := ⟨gb119, 0, none⟩) (Kd.R_types HO_6.out BK119.out (by decide)) (fun _ hk => hk.2) (.string ((rd_T59 l1 x47_3).f0))) (fun _ hk => hk.2) (.string ((rd_T59 l1 x47_3).f1))) (fun _ h_ => h_.1))) hb); replace BK119 := Aside0.mk (blk_below (g := gb119) (o := .cells #[.string ((rd_T59 l1 x47_3).f0), .string ((rd_T59 l1 x47_3).f1)] 59 (0, 0)) (by (with_reducible repeat (first | refine blk_drewN ?_ _ | refine blk_drew ?_ | refine blk_alloc ?_ _)); refine blk_put (cs := #[.string ((rd_T59 l1 x47_3).f0), .string (⟨#[]⟩ : ByteArray)]) ?_ 1 _ rfl; (with_reducible repeat (first | refine blk_drewN ?_ _ | refine blk_drew ?_ | refine blk_alloc ?_ _)); refine blk_put (cs := #[.string (⟨#[]⟩ : ByteArray), .string (⟨#[]⟩ : ByteArray)]) ?_ 0 _ rfl; (with_reducible repeat (first | refine blk_drewN ?_ _ | refine blk_drew ?_ | refine blk_alloc ?_ _)); exact BK119.out) hb); replace HB := Aside0.mk (below_step t4_ hb); (try clear hb); (try clear hb2); (try clear hk); (try clear hi); have p122 : 0 ≤ (t120 : Int) := of_decide_eq_true t2_; have q122 : t120 < (l0.length : Int) := of_decide_eq_true t2_; obtain ⟨ad122, e122, hx122_0, hx122_1⟩ := at_T59 HR0.out t120 p122 q122; cases e122; replace hx122_0 := (HB.out.cell (World.block_lt_of_cell? w _ hx122_0)).trans hx122_0; replace hx122_1 := (HB.out.cell (World.block_lt_of_cell? w _ hx122_1)).trans hx122_1; replace p122 := eq_true p122; replace q122 := eq_true q122; have hcz41_0 := bc0 BK119; have hcz41_1 := bc1 BK119; have hfz41_0 := bf BK119 0; have hfz41_1 := bf BK119 1) | ((with_reducible refine gate_builtin (b := .append) (xs := #[.tmp 70, .tmp 76]) rfl ?_); at_builtin; refine Kd.R_append k109 (w0 := w) w.heap.size rfl (.tmp 70) (.tmp 76) 46 109 (.agg #[(.string ⟨#[]⟩), (.string ⟨#[]⟩), (.bool false)]) 40 rfl Try.underlying46 info109 rfl (by decide) (by omega) u6 x6_3 (⟨(rd_T59 l1 x47_3).f0, (rd_T59 l1 x47_3).f1, false⟩ : S109) [.string ((rd_T59 l1 x47_3).f0), .string ((rd_T59 l1 x47_3).f1), .bool false] (fun _ => True) (fun _ => False) rfl rfl ?aP (fun _ hk => hk.elim) ?aF ?aO ?aB ?aS ?aL ?_; (case aP => exact k109_mkM _ _ _ (⟨(rd_T59 l1 x47_3).f0, (rd_T59 l1 x47_3).f1, false⟩ : S109)); (case aB => exact t4_); (case aF => exact (fun _ _ => trivial)); (case aO => exact t5_); (case aS => exact (below_size t4_)); (case aL => have := LMc37.out; omega); intro v124 w42 ho hb hg hat; rw [← Ny123.out] at ho; have n0_ := Aside0.mk (blk_grown (g := gb119) (o := .cells #[.string ((rd_T59 l1 x47_3).f0), .string ((rd_T59 l1 x47_3).f1)] 59 (0, 0)) t17_ hg (Kd.R_ne HO_6.out BK119.out (by decide))); have n1_ := Aside0.mk (hb); have n2_ := Aside0.mk (ho); clear BK119; clear HB; clear HO_6; have BK119 := n0_; have HB := n1_; have HO125 := n2_; clear n0_ n1_ n2_; clear ho hb hg hat)))
                                  go_roundg k3
                                  case measure => have := HJ2.out; have := HK2.out; have := HK3.out; omega
                                  case rel => exact ⟨(y123), (wrap64 (x47_3 + 1)), t7_, H', ⟨by have := HJ2.out; have := HK2.out; have := HK3.out; omega⟩, ⟨by (with_reducible repeat (first | apply Kd.R_alloc | apply Kd.R_drewN | apply Kd.R_drew)); exact HO125.out⟩, ⟨t4_⟩⟩
                                · rw [if_neg c37] at H
                                  exact absurd H (by simp)
                            · rw [if_neg c31] at H
                              exact absurd H (by simp)
                          · rw [if_neg c30] at H
                            exact absurd H (by simp)
                        · replace c29 := Bool.eq_false_iff.mpr c29
                          subst c29
                          have H1 : (if x6_3.length < 3518437208883 then (impl_MapBetween.l1 k3 l0 (x6_3 ++ [(⟨(rd_T59 l1 x47_3).f0, (rd_T59 l1 x47_3).f1, false⟩ : S109)]) l1 (l1.length : Int) (wrap64 (x47_3 + 1))) else (none)) = some (r1, r2) := by rw [if_neg (show ¬ (false = true) by decide)] at H; exact H
                          clear H
                          have H := H1
                          clear H1
                          by_cases c43 : x6_3.length < 3518437208883
                          · rw [if_pos c43] at H
                            have LMc43 := Aside0.mk c43
                            clear c43
                            obtain ⟨y126, hy126⟩ : ∃ y_ : List (S109), y_ = (x6_3 ++ [(⟨(rd_T59 l1 x47_3).f0, (rd_T59 l1 x47_3).f1, false⟩ : S109)]) := ⟨_, rfl⟩
                            replace H : (impl_MapBetween.l1 k3 l0 y126 l1 (l1.length : Int) (wrap64 (x47_3 + 1))) = some (r1, r2) := by first | (rw [hy126]; with_reducible exact H) | (have H2_ := (Option.bind_some _ _).symm.trans H; rw [hy126]; with_reducible exact H2_) | (have H2_ := (Option.bind_some _ _).symm.trans H; with_reducible exact H2_) | with_reducible exact H | (rw [hy126]; exact H) | exact H
                            have Ny126 := Aside0.mk hy126
                            clear hy126
                            have H' := Aside0.mk H
                            clear H
                            have p118 : 0 ≤ (x47_3 : Int) := of_decide_eq_true t2_
                            have q118 : x47_3 < (l1.length : Int) := of_decide_eq_true t2_
                            obtain ⟨ad118, e118, hx118_0, hx118_1⟩ := at_T59 HR1.out x47_3 p118 q118
                            cases e118
                            replace hx118_0 := (HB.out.cell (World.block_lt_of_cell? w _ hx118_0)).trans hx118_0
                            replace hx118_1 := (HB.out.cell (World.block_lt_of_cell? w _ hx118_1)).trans hx118_1
                            replace p118 := eq_true p118
                            replace q118 := eq_true q118
                            go_wp2_with (first | ((with_reducible refine gate_dst (N := 12) rfl ?_); refine boxE (N := 12) (cs := #[.string (⟨#[]⟩ : ByteArray), .string (⟨#[]⟩ : ByteArray)]) (t := 59) (h := ?_); intro gb119 hg w44 hbox hb; replace HO_6 := Aside0.mk (Kd.R_below t5_ hb); have BK119 := Aside0.mk (hbox); have GW119 := Aside0.mk ((t1_ : w.heap.size ≤ gb119)); have GE119 := Aside0.mk ((t1_ : w.heap.size ≤ gb119)); replace HB := Aside0.mk (below_step t0_ hb); clear hb hbox hg; have hcz45_0 := bc0 BK119; have hcz45_1 := bc1 BK119; have hfz45_0 := bf BK119 0; have hfz45_1 := bf BK119 1) | (go_at_call 71; (with_reducible refine (impl_pairNo.calls _ _ l0 ((rd_T59 l1 x47_3).f0) t120 false _ ?side1 ?side2 A28.out).mono ?_); (case side1 => exact Kd.C_below HR0.out t4_); (case side2 => exact HC0.out); rintro e w46 ⟨rfl, hb⟩; replace HO_6 := Aside0.mk (Kd.R_below (by (with_reducible repeat (first | apply Kd.R_alloc | apply Kd.R_drewN | apply Kd.R_drew)); exact (Kd.R_mono (Kd.R_far (p := ⟨gb119, 1, none⟩) (Kd.R_far (p := ⟨gb119, 0, none⟩) (Kd.R_types HO_6.out BK119.out (by decide)) (fun _ hk => hk.2) (.string ((rd_T59 l1 x47_3).f0))) (fun _ hk => hk.2) (.string ((rd_T59 l1 x47_3).f1))) (fun _ h_ => h_.1))) hb); replace BK119 := Aside0.mk (blk_below (g := gb119) (o := .cells #[.string ((rd_T59 l1 x47_3).f0), .string ((rd_T59 l1 x47_3).f1)] 59 (0, 0)) (by (with_reducible repeat (first | refine blk_drewN ?_ _ | refine blk_drew ?_ | refine blk_alloc ?_ _)); refine blk_put (cs := #[.string ((rd_T59 l1 x47_3).f0), .string (⟨#[]⟩ : ByteArray)]) ?_ 1 _ rfl; (with_reducible repeat (first | refine blk_drewN ?_ _ | refine blk_drew ?_ | refine blk_alloc ?_ _)); refine blk_put (cs := #[.string (⟨#[]⟩ : ByteArray), .string (⟨#[]⟩ : ByteArray)]) ?_ 0 _ rfl; (with_reducible repeat (first | refine blk_drewN ?_ _ | refine blk_drew ?_ | refine blk_alloc ?_ _)); exact BK119.out) hb); replace HB := Aside0.mk (below_step t4_ hb); (try clear hb); (try clear hb2); (try clear hk); (try clear hi); have hcz47_0 := bc0 BK119; have hcz47_1 := bc1 BK119; have hfz47_0 := bf BK119 0; have hfz47_1 := bf BK119 1) | ((with_reducible refine gate_builtin (b := .append) (xs := #[.tmp 70, .tmp 76]) rfl ?_); at_builtin; refine Kd.R_append k109 (w0 := w) w.heap.size rfl (.tmp 70) (.tmp 76) 46 109 (.agg #[(.string ⟨#[]⟩), (.string ⟨#[]⟩), (.bool false)]) 40 rfl Try.underlying46 info109 rfl (by decide) (by omega) u6 x6_3 (⟨(rd_T59 l1 x47_3).f0, (rd_T59 l1 x47_3).f1, false⟩ : S109) [.string ((rd_T59 l1 x47_3).f0), .string ((rd_T59 l1 x47_3).f1), .bool false] (fun _ => True) (fun _ => False) rfl rfl ?aP (fun _ hk => hk.elim) ?aF ?aO ?aB ?aS ?aL ?_; (case aP => exact k109_mkM _ _ _ (⟨(rd_T59 l1 x47_3).f0, (rd_T59 l1 x47_3).f1, false⟩ : S109)); (case aB => exact t4_); (case aF => exact (fun _ _ => trivial)); (case aO => exact t5_); (case aS => exact (below_size t4_)); (case aL => have := LMc43.out; omega); intro v127 w48 ho hb hg hat; rw [← Ny126.out] at ho; have n0_ := Aside0.mk (blk_grown (g := gb119) (o := .cells #[.string ((rd_T59 l1 x47_3).f0), .string ((rd_T59 l1 x47_3).f1)] 59 (0, 0)) t17_ hg (Kd.R_ne HO_6.out BK119.out (by decide))); have n1_ := Aside0.mk (hb); have n2_ := Aside0.mk (ho); clear BK119; clear HB; clear HO_6; have BK119 := n0_; have HB := n1_; have HO128 := n2_; clear n0_ n1_ n2_; clear ho hb hg hat))
                            repeat (go_quiet (first | ((with_reducible refine gate_dst (N := 12) rfl ?_); refine boxE (N := 12) (cs := #[.string (⟨#[]⟩ : ByteArray), .string (⟨#[]⟩ : ByteArray)]) (t := 59) (h := ?_); intro gb119 hg w44 hbox hb; replace HO_6 := Aside0.mk (Kd.R_below t5_ hb); have BK119 := Aside0.mk (hbox); have GW119 := Aside0.mk ((t1_ : w.heap.size ≤ gb119)); have GE119 := Aside0.mk ((t1_ : w.heap.size ≤ gb119)); replace HB := Aside0.mk (below_step t0_ hb); clear hb hbox hg; have hcz45_0 := bc0 BK119; have hcz45_1 := bc1 BK119; have hfz45_0 := bf BK119 0; have hfz45_1 := bf BK119 1) | (go_at_call 71; (with_reducible refine (impl_pairNo.calls _ _ l0 ((rd_T59 l1 x47_3).f0) t120 false _ ?side1 ?side2 A28.out).mono ?_); (case side1 => exact Kd.C_below HR0.out t4_); (case side2 => exact HC0.out); rintro e w46 ⟨rfl, hb⟩; replace HO_6 := Aside0.mk (Kd.R_below (by (with_reducible repeat (first | apply Kd.R_alloc | apply Kd.R_drewN | apply Kd.R_drew)); exact (Kd.R_mono (Kd.R_far (p := ⟨gb119, 1, none⟩) (Kd.R_far (p := ⟨gb119, 0, none⟩) (Kd.R_types HO_6.out BK119.out (by decide)) (fun _ hk => hk.2) (.string ((rd_T59 l1 x47_3).f0))) (fun _ hk => hk.2) (.string ((rd_T59 l1 x47_3).f1))) (fun _ h_ => h_.1))) hb); replace BK119 := Aside0.mk (blk_below (g := gb119) (o := .cells #[.string ((rd_T59 l1 x47_3).f0), .string ((rd_T59 l1 x47_3).f1)] 59 (0, 0)) (by (with_reducible repeat (first | refine blk_drewN ?_ _ | refine blk_drew ?_ | refine blk_alloc ?_ _)); refine blk_put (cs := #[.string ((rd_T59 l1 x47_3).f0), .string (⟨#[]⟩ : ByteArray)]) ?_ 1 _ rfl; (with_reducible repeat (first | refine blk_drewN ?_ _ | refine blk_drew ?_ | refine blk_alloc ?_ _)); refine blk_put (cs := #[.string (⟨#[]⟩ : ByteArray), .string (⟨#[]⟩ : ByteArray)]) ?_ 0 _ rfl; (with_reducible repeat (first | refine blk_drewN ?_ _ | refine blk_drew ?_ | refine blk_alloc ?_ _)); exact BK119.out) hb); replace HB := Aside0.mk (below_step t4_ hb); (try clear hb); (try clear hb2); (try clear hk); (try clear hi); have hcz47_0 := bc0 BK119; have hcz47_1 := bc1 BK119; have hfz47_0 := bf BK119 0; have hfz47_1 := bf BK119 1) | ((with_reducible refine gate_builtin (b := .append) (xs := #[.tmp 70, .tmp 76]) rfl ?_); at_builtin; refine Kd.R_append k109 (w0 := w) w.heap.size rfl (.tmp 70) (.tmp 76) 46 109 (.agg #[(.string ⟨#[]⟩), (.string ⟨#[]⟩), (.bool false)]) 40 rfl Try.underlying46 info109 rfl (by decide) (by omega) u6 x6_3 (⟨(rd_T59 l1 x47_3).f0, (rd_T59 l1 x47_3).f1, false⟩ : S109) [.string ((rd_T59 l1 x47_3).f0), .string ((rd_T59 l1 x47_3).f1), .bool false] (fun _ => True) (fun _ => False) rfl rfl ?aP (fun _ hk => hk.elim) ?aF ?aO ?aB ?aS ?aL ?_; (case aP => exact k109_mkM _ _ _ (⟨(rd_T59 l1 x47_3).f0, (rd_T59 l1 x47_3).f1, false⟩ : S109)); (case aB => exact t4_); (case aF => exact (fun _ _ => trivial)); (case aO => exact t5_); (case aS => exact (below_size t4_)); (case aL => have := LMc43.out; omega); intro v127 w48 ho hb hg hat; rw [← Ny126.out] at ho; have n0_ := Aside0.mk (blk_grown (g := gb119) (o := .cells #[.string ((rd_T59 l1 x47_3).f0), .string ((rd_T59 l1 x47_3).f1)] 59 (0, 0)) t17_ hg (Kd.R_ne HO_6.out BK119.out (by decide))); have n1_ := Aside0.mk (hb); have n2_ := Aside0.mk (ho); clear BK119; clear HB; clear HO_6; have BK119 := n0_; have HB := n1_; have HO128 := n2_; clear n0_ n1_ n2_; clear ho hb hg hat)); try go_wp2_with (first | ((with_reducible refine gate_dst (N := 12) rfl ?_); refine boxE (N := 12) (cs := #[.string (⟨#[]⟩ : ByteArray), .string (⟨#[]⟩ : ByteArray)]) (t := 59) (h := ?_); intro gb119 hg w44 hbox hb; replace HO_6 := Aside0.mk (Kd.R_below t5_ hb); have BK119 := Aside0.mk (hbox); have GW119 := Aside0.mk ((t1_ : w.heap.size ≤ gb119)); have GE119 := Aside0.mk ((t1_ : w.heap.size ≤ gb119)); replace HB := Aside0.mk (below_step t0_ hb); clear hb hbox hg; have hcz45_0 := bc0 BK119; have hcz45_1 := bc1 BK119; have hfz45_0 := bf BK119 0; have hfz45_1 := bf BK119 1) | (go_at_call 71; (with_reducible refine (impl_pairNo.calls _ _ l0 ((rd_T59 l1 x47_3).f0) t120 false _ ?side1 ?side2 A28.out).mono ?_); (case side1 => exact Kd.C_below HR0.out t4_); (case side2 => exact HC0.out); rintro e w46 ⟨rfl, hb⟩; replace HO_6 := Aside0.mk (Kd.R_below (by (with_reducible repeat (first | apply Kd.R_alloc | apply Kd.R_drewN | apply Kd.R_drew)); exact (Kd.R_mono (Kd.R_far (p := ⟨gb119, 1, none⟩) (Kd.R_far (p := ⟨gb119, 0, none⟩) (Kd.R_types HO_6.out BK119.out (by decide)) (fun _ hk => hk.2) (.string ((rd_T59 l1 x47_3).f0))) (fun _ hk => hk.2) (.string ((rd_T59 l1 x47_3).f1))) (fun _ h_ => h_.1))) hb); replace BK119 := Aside0.mk (blk_below (g := gb119) (o := .cells #[.string ((rd_T59 l1 x47_3).f0), .string ((rd_T59 l1 x47_3).f1)] 59 (0, 0)) (by (with_reducible repeat (first | refine blk_drewN ?_ _ | refine blk_drew ?_ | refine blk_alloc ?_ _)); refine blk_put (cs := #[.string ((rd_T59 l1 x47_3).f0), .string (⟨#[]⟩ : ByteArray)]) ?_ 1 _ rfl; (with_reducible repeat (first | refine blk_drewN ?_ _ | refine blk_drew ?_ | refine blk_alloc ?_ _)); refine blk_put (cs := #[.string (⟨#[]⟩ : ByteArray), .string (⟨#[]⟩ : ByteArray)]) ?_ 0 _ rfl; (with_reducible repeat (first | refine blk_drewN ?_ _ | refine blk_drew ?_ | refine blk_alloc ?_ _)); exact BK119.out) hb); replace HB := Aside0.mk (below_step t4_ hb); (try clear hb); (try clear hb2); (try clear hk); (try clear hi); have hcz47_0 := bc0 BK119; have hcz47_1 := bc1 BK119; have hfz47_0 := bf BK119 0; have hfz47_1 := bf BK119 1) | ((with_reducible refine gate_builtin (b := .append) (xs := #[.tmp 70, .tmp 76]) rfl ?_); at_builtin; refine Kd.R_append k109 (w0 := w) w.heap.size rfl (.tmp 70) (.tmp 76) 46 109 (.agg #[(.string ⟨#[]⟩), (.string ⟨#[]⟩), (.bool false)]) 40 rfl Try.underlying46 info109 rfl (by decide) (by omega) u6 x6_3 (⟨(rd_T59 l1 x47_3).f0, (rd_T59 l1 x47_3).f1, false⟩ : S109) [.string ((rd_T59 l1 x47_3).f0), .string ((rd_T59 l1 x47_3).f1), .bool false] (fun _ => True) (fun _ => False) rfl rfl ?aP (fun _ hk => hk.elim) ?aF ?aO ?aB ?aS ?aL ?_; (case aP => exact k109_mkM _ _ _ (⟨(rd_T59 l1 x47_3).f0, (rd_T59 l1 x47_3).f1, false⟩ : S109)); (case aB => exact t4_); (case aF => exact (fun _ _ => trivial)); (case aO => exact t5_); (case aS => exact (below_size t4_)); (case aL => have := LMc43.out; omega); intro v127 w48 ho hb hg hat; rw [← Ny126.out] at ho; have n0_ := Aside0.mk (blk_grown (g := gb119) (o := .cells #[.string ((rd_T59 l1 x47_3).f0), .string ((rd_T59 l1 x47_3).f1)] 59 (0, 0)) t17_ hg (Kd.R_ne HO_6.out BK119.out (by decide))); have n1_ := Aside0.mk (hb); have n2_ := Aside0.mk (ho); clear BK119; clear HB; clear HO_6; have BK119 := n0_; have HB := n1_; have HO128 := n2_; clear n0_ n1_ n2_; clear ho hb hg hat)))
                            go_roundg k3
                            case measure => have := HJ2.out; have := HK2.out; have := HK3.out; omega
                            case rel => exact ⟨(y126), (wrap64 (x47_3 + 1)), t7_, H', ⟨by have := HJ2.out; have := HK2.out; have := HK3.out; omega⟩, ⟨by (with_reducible repeat (first | apply Kd.R_alloc | apply Kd.R_drewN | apply Kd.R_drew)); exact HO128.out⟩, ⟨t4_⟩⟩
                          · rw [if_neg c43] at H
                            exact absurd H (by simp)
                      · rw [if_neg c27] at H
                        exact absurd H (by simp)
                    · rw [if_neg c26] at H
                      exact absurd H (by simp)
                  · rw [if_neg c25] at H
                    have c25b0 : decide (x47_3 < (l1.length : Int)) = false := decide_eq_false c25
                    clear c25
                    by_cases c49 : (x6_3.length : Int) > 60
                    · rw [if_pos c49] at H
                      have c49b0 : decide (60 < (x6_3.length : Int)) = true := decide_eq_true c49
                      have c49b1 : decide (60 < x6_3.length) = true := decide_eq_true (by omega)
                      clear c49
                      simp only [Option.some.injEq, Prod.mk.injEq] at H
                      obtain ⟨rfl, rfl⟩ := H
                      obtain ⟨Ao50, co50, eo50⟩ := Kd.R_slice HO_6.out
                      subst eo50
                      go_wp2
                      repeat (go_quiet (fail); try go_wp2)
                      go_ret2
                      exact ⟨_, by first | rfl | (simp [errW_none, errW_some] <;> rfl) | (simp [*, errW_none, errW_some] <;> rfl), by first | exact Kd.R_nil _ _ _ _ _ | exact Kd.N_nil _ _ _ _ _ | exact Kd.V_nil _ _ _ _ _ | exact Kd.Q_nil _ _ _ _ _ | exact Kd.S_nil _ _ _ _ _, t0_⟩
                    · rw [if_neg c49] at H
                      have c49b0 : decide (60 < (x6_3.length : Int)) = false := decide_eq_false c49
                      have c49b1 : decide (60 < x6_3.length) = false := decide_eq_false (by omega)
                      clear c49
                      replace H := Option.bind_eq_some_iff.mp H
                      obtain ⟨t129, A510, H⟩ := H
                      replace H : (some (t129, true)) = some (r1, r2) := H
                      have A51 := Aside0.mk A510
                      clear A510
                      simp only [Option.some.injEq, Prod.mk.injEq] at H
                      obtain ⟨rfl, rfl⟩ := H
                      obtain ⟨Ao52, co52, eo52⟩ := Kd.R_slice HO_6.out
                      subst eo52
                      go_wp2_with (first | (go_at_call 72; (with_reducible refine (impl_Change.calls (fun k_ => some k_ = (.slice Ao52 x6_3.length co52 : Value).ownBlock) (.slice Ao52 x6_3.length co52) x6_3 () t129 w _ ?side1 ?side2 A51.out).mono ?_); (case side1 => repeat (first | (with_reducible first | exact HB.out | apply below_alloc | apply pw_below_drewN | apply below_drew1) | exact HB.out)); (case side2 => exact Kd.R_tight rfl HO_6.out); rintro e w53 ⟨rfl, hy0, hb, hkp⟩; replace HO_6 := Aside0.mk (Kd.R_reok rfl hy0 (fun k_ e_ => HO_6.out.1 k_ e_)); replace HB := Aside0.mk (hb); (try clear hb); (try clear hkp); (try clear hy0)))
                      repeat (go_quiet (first | (go_at_call 72; (with_reducible refine (impl_Change.calls (fun k_ => some k_ = (.slice Ao52 x6_3.length co52 : Value).ownBlock) (.slice Ao52 x6_3.length co52) x6_3 () t129 w _ ?side1 ?side2 A51.out).mono ?_); (case side1 => repeat (first | (with_reducible first | exact HB.out | apply below_alloc | apply pw_below_drewN | apply below_drew1) | exact HB.out)); (case side2 => exact Kd.R_tight rfl HO_6.out); rintro e w53 ⟨rfl, hy0, hb, hkp⟩; replace HO_6 := Aside0.mk (Kd.R_reok rfl hy0 (fun k_ e_ => HO_6.out.1 k_ e_)); replace HB := Aside0.mk (hb); (try clear hb); (try clear hkp); (try clear hy0))); try go_wp2_with (first | (go_at_call 72; (with_reducible refine (impl_Change.calls (fun k_ => some k_ = (.slice Ao52 x6_3.length co52 : Value).ownBlock) (.slice Ao52 x6_3.length co52) x6_3 () t129 w _ ?side1 ?side2 A51.out).mono ?_); (case side1 => repeat (first | (with_reducible first | exact HB.out | apply below_alloc | apply pw_below_drewN | apply below_drew1) | exact HB.out)); (case side2 => exact Kd.R_tight rfl HO_6.out); rintro e w53 ⟨rfl, hy0, hb, hkp⟩; replace HO_6 := Aside0.mk (Kd.R_reok rfl hy0 (fun k_ e_ => HO_6.out.1 k_ e_)); replace HB := Aside0.mk (hb); (try clear hb); (try clear hkp); (try clear hy0))))
                      go_ret2
                      exact ⟨_, by first | rfl | (simp [errW_none, errW_some] <;> rfl) | (simp [*, errW_none, errW_some] <;> rfl), by (with_reducible repeat (first | apply Kd.R_alloc | apply Kd.R_drewN | apply Kd.R_drew)); exact HO_6.out, t0_⟩

/-! ### laws_szPair: function 91 -/
def laws_szPair.f (a0_0 : ByteArray) (a0_1 : ByteArray) (a1 : Int) : Option (Int) := if (wrap64 (a1 - (a0_0.size : Int))) < 0 then (some (-1)) else (if (wrap64 ((wrap64 (a1 - (a0_0.size : Int))) - (a0_1.size : Int))) < 0 then (some (-1)) else (some (wrap64 ((wrap64 (a1 - (a0_0.size : Int))) - (a0_1.size : Int)))))
set_option maxHeartbeats 8000000 in
set_option maxRecDepth 100000 in
theorem laws_szPair.calls (a0_0 : ByteArray) (a0_1 : ByteArray) (a1 : Int) (r : Int) (w : World) (h : laws_szPair.f a0_0 a0_1 a1 = some r) :
    Calls Try.prog 91 #[.agg #[.string a0_0, .string a0_1], .int .i64 a1] w fun e w' => e = .returned (.int .i64 r) ∧ Below w.heap.size w w' := by
  have hu129 := Try.underlying129
  have HB := Aside0.mk (Below.refl w.heap.size w)
  have H : (if (wrap64 (a1 - (a0_0.size : Int))) < 0 then (some (-1)) else (if (wrap64 ((wrap64 (a1 - (a0_0.size : Int))) - (a0_1.size : Int))) < 0 then (some (-1)) else (some (wrap64 ((wrap64 (a1 - (a0_0.size : Int))) - (a0_1.size : Int)))))) = some r := h
  clear h
  by_cases c3 : (wrap64 (a1 - (a0_0.size : Int))) < 0
  · rw [if_pos c3] at H
    have c3b0 : decide ((wrap64 (a1 - (a0_0.size : Int))) < 0) = true := decide_eq_true c3
    clear c3
    obtain rfl := Option.some.inj H
    go_enter Try.func91, Try.ntmps91
    go_wp2_with (first | ((with_reducible refine gate_dst (N := 2) rfl ?_); refine boxE (N := 2) (cs := #[.string a0_0, .string a0_1]) (t := 129) (h := ?_); intro gb130 hg w4 hbox hb; have BK130 := Aside0.mk (hbox); have GW130 := Aside0.mk ((t1_ : w.heap.size ≤ gb130)); have GE130 := Aside0.mk ((t1_ : w.heap.size ≤ gb130)); replace HB := Aside0.mk (below_step t0_ hb); clear hb hbox hg; have hcz5_0 := bc0 BK130; have hcz5_1 := bc1 BK130; have hfz5_0 := bf BK130 0; have hfz5_1 := bf BK130 1))
    go_ret
    exact ⟨by first | rfl | (simp [errW_none, errW_some] <;> rfl) | (simp [*, errW_none, errW_some] <;> rfl), by repeat (first | (with_reducible first | exact HB.out | apply below_alloc | apply pw_below_drewN | apply below_drew1 | refine below_set ?_ GE130.out) | exact HB.out)⟩
  · rw [if_neg c3] at H
    have c3b0 : decide ((wrap64 (a1 - (a0_0.size : Int))) < 0) = false := decide_eq_false c3
    clear c3
    by_cases c6 : (wrap64 ((wrap64 (a1 - (a0_0.size : Int))) - (a0_1.size : Int))) < 0
    · rw [if_pos c6] at H
      have c6b0 : decide ((wrap64 ((wrap64 (a1 - (a0_0.size : Int))) - (a0_1.size : Int))) < 0) = true := decide_eq_true c6
      clear c6
      obtain rfl := Option.some.inj H
      go_enter Try.func91, Try.ntmps91
      go_wp2_with (first | ((with_reducible refine gate_dst (N := 2) rfl ?_); refine boxE (N := 2) (cs := #[.string a0_0, .string a0_1]) (t := 129) (h := ?_); intro gb130 hg w7 hbox hb; have BK130 := Aside0.mk (hbox); have GW130 := Aside0.mk ((t1_ : w.heap.size ≤ gb130)); have GE130 := Aside0.mk ((t1_ : w.heap.size ≤ gb130)); replace HB := Aside0.mk (below_step t0_ hb); clear hb hbox hg; have hcz8_0 := bc0 BK130; have hcz8_1 := bc1 BK130; have hfz8_0 := bf BK130 0; have hfz8_1 := bf BK130 1))
      go_ret
      exact ⟨by first | rfl | (simp [errW_none, errW_some] <;> rfl) | (simp [*, errW_none, errW_some] <;> rfl), by repeat (first | (with_reducible first | exact HB.out | apply below_alloc | apply pw_below_drewN | apply below_drew1 | refine below_set ?_ GE130.out) | exact HB.out)⟩
    · rw [if_neg c6] at H
      have c6b0 : decide ((wrap64 ((wrap64 (a1 - (a0_0.size : Int))) - (a0_1.size : Int))) < 0) = false := decide_eq_false c6
      clear c6
      obtain rfl := Option.some.inj H
      go_enter Try.func91, Try.ntmps91
      go_wp2_with (first | ((with_reducible refine gate_dst (N := 2) rfl ?_); refine boxE (N := 2) (cs := #[.string a0_0, .string a0_1]) (t := 129) (h := ?_); intro gb130 hg w9 hbox hb; have BK130 := Aside0.mk (hbox); have GW130 := Aside0.mk ((t1_ : w.heap.size ≤ gb130)); have GE130 := Aside0.mk ((t1_ : w.heap.size ≤ gb130)); replace HB := Aside0.mk (below_step t0_ hb); clear hb hbox hg; have hcz10_0 := bc0 BK130; have hcz10_1 := bc1 BK130; have hfz10_0 := bf BK130 0; have hfz10_1 := bf BK130 1))
      go_ret
      exact ⟨by first | rfl | (simp [errW_none, errW_some] <;> rfl) | (simp [*, errW_none, errW_some] <;> rfl), by repeat (first | (with_reducible first | exact HB.out | apply below_alloc | apply pw_below_drewN | apply below_drew1 | refine below_set ?_ GE130.out) | exact HB.out)⟩

/-! ### laws_szPairS: function 41 -/
def laws_szPairS.l0 : Nat → List (S129) → Int → Int → Option (Int)
  | 0, _, _, _ => none
  | k + 1, x0, x1, x5 => if x5 < (x0.length : Int) then (if 0 ≤ x5 then ((laws_szPair.f ((rd_T129 x0 x5).f0) ((rd_T129 x0 x5).f1) x1).bind fun t132 => (if t132 < 0 then (some (-1)) else (laws_szPairS.l0 k x0 t132 (wrap64 (x5 + 1))))) else (none)) else (some x1)
def laws_szPairS.f (k : Nat) (l0 : List (S129)) (a1 : Int) : Option (Int) := if (wrap64 (a1 - (l0.length : Int))) < 0 then (some (-1)) else (laws_szPairS.l0 k l0 (wrap64 (a1 - (l0.length : Int))) 0)
theorem laws_szPairS.mono_l : ∀ k, (∀ y0 y1 y2, LeO (laws_szPairS.l0 k y0 y1 y2) (laws_szPairS.l0 (k + 1) y0 y1 y2))
  | 0 => fun _ _ _ r h => by simp [laws_szPairS.l0] at h
  | k + 1 => by
    have ih0 := laws_szPairS.mono_l k
    · intro y0 y1 y2
      unfold laws_szPairS.l0
      repeat' first
      | (with_reducible exact ih0 _ _ _)
      | (with_reducible exact LeO.refl _)
      | (with_reducible exact LeO.none _)
      | (with_reducible refine LeO.ite ?_ ?_)
      | (with_reducible refine LeO.bind ?_ (fun _ => ?_))
      | exact ih0 _ _ _
      | exact LeO.none _
      | refine LeO.ite ?_ ?_
      | refine LeO.bind ?_ (fun _ => ?_)
theorem laws_szPairS.mono : ∀ a0 a1 k, LeO (laws_szPairS.f k a0 a1) (laws_szPairS.f (k + 1) a0 a1) := by
  intro a0 a1 k
  have ih0 := laws_szPairS.mono_l k
  unfold laws_szPairS.f
  repeat' first
      | (with_reducible exact ih0 _ _ _)
      | (with_reducible exact LeO.refl _)
      | (with_reducible exact LeO.none _)
      | (with_reducible refine LeO.ite ?_ ?_)
      | (with_reducible refine LeO.bind ?_ (fun _ => ?_))
      | exact ih0 _ _ _
      | exact LeO.none _
      | refine LeO.ite ?_ ?_
      | refine LeO.bind ?_ (fun _ => ?_)
set_option maxHeartbeats 8000000 in
set_option maxRecDepth 100000 in
theorem laws_szPairS.calls (k : Nat) (A0 : Option Addr) (c0 : Nat) (l0 : List (S129)) (a1 : Int) (r : Int) (w : World) (hr0 : Kd.C k129 w A0 l0.length l0) (hc0 : l0.length ≤ c0) (h : laws_szPairS.f k l0 a1 = some r) :
    Calls Try.prog 41 #[.slice A0 l0.length c0, .int .i64 a1] w fun e w' => e = .returned (.int .i64 r) ∧ Below w.heap.size w w' := by
  have hu129 := Try.underlying129
  have HR0 := Aside0.mk hr0
  have HC0 := Aside0.mk hc0
  clear hr0 hc0
  have HB := Aside0.mk (Below.refl w.heap.size w)
  have H : (if (wrap64 (a1 - (l0.length : Int))) < 0 then (some (-1)) else (laws_szPairS.l0 k l0 (wrap64 (a1 - (l0.length : Int))) 0)) = some r := h
  clear h
  by_cases c3 : (wrap64 (a1 - (l0.length : Int))) < 0
  · rw [if_pos c3] at H
    have c3b0 : decide ((wrap64 (a1 - (l0.length : Int))) < 0) = true := decide_eq_true c3
    clear c3
    obtain rfl := Option.some.inj H
    go_enter Try.func41, Try.ntmps41
    go_wp2
    go_ret
    exact ⟨by first | rfl | (simp [errW_none, errW_some] <;> rfl) | (simp [*, errW_none, errW_some] <;> rfl), t0_⟩
  · rw [if_neg c3] at H
    have c3b0 : decide ((wrap64 (a1 - (l0.length : Int))) < 0) = false := decide_eq_false c3
    clear c3
    have H' := Aside0.mk H
    clear H
    go_enter Try.func41, Try.ntmps41
    go_wp2
    go_loopg [1, 5] k (fun kq v1 v5 w' => ∃ (x1_1 : Int) (x5_1 : Int), v1 = .int .i64 x1_1 ∧ v5 = .int .i64 x5_1 ∧ Aside0 (laws_szPairS.l0 kq l0 x1_1 x5_1 = some r) ∧ Aside0 (kq ≤ k) ∧ Aside0 (Below w.heap.size w w'))
    case atStart => exact ⟨(wrap64 (a1 - (l0.length : Int))), (0), t7_, t7_, H', ⟨Nat.le_refl _⟩, ⟨t0_⟩⟩
    case round =>
      clear H'
      try clear p2
      try clear c3
      try clear c3b0
      obtain ⟨x1_1, x5_1, rfl, rfl, HA, HK1, HB⟩ := hrel
      cases gk with
      | zero => exact absurd HA.out (by simp [laws_szPairS.l0])
      | succ k1 =>
        have H := HA.out
        clear HA
        simp only [laws_szPairS.l0] at H
        by_cases c4 : x5_1 < (l0.length : Int)
        · rw [if_pos c4] at H
          have c4b0 : decide (x5_1 < (l0.length : Int)) = true := decide_eq_true c4
          clear c4
          by_cases c5 : 0 ≤ x5_1
          · rw [if_pos c5] at H
            have c5b0 : decide (0 ≤ x5_1) = true := decide_eq_true c5
            clear c5
            replace H := Option.bind_eq_some_iff.mp H
            obtain ⟨t132, A60, H⟩ := H
            replace H : (if t132 < 0 then (some (-1)) else (laws_szPairS.l0 k1 l0 t132 (wrap64 (x5_1 + 1)))) = some r := H
            have A6 := Aside0.mk A60
            clear A60
            by_cases c7 : t132 < 0
            · rw [if_pos c7] at H
              have c7b0 : decide (t132 < 0) = true := decide_eq_true c7
              clear c7
              obtain rfl := Option.some.inj H
              have p131 : 0 ≤ (x5_1 : Int) := of_decide_eq_true t2_
              have q131 : x5_1 < (l0.length : Int) := of_decide_eq_true t2_
              obtain ⟨ad131, e131, hx131_0, hx131_1⟩ := at_T129 HR0.out x5_1 p131 q131
              cases e131
              replace hx131_0 := (HB.out.cell (World.block_lt_of_cell? w _ hx131_0)).trans hx131_0
              replace hx131_1 := (HB.out.cell (World.block_lt_of_cell? w _ hx131_1)).trans hx131_1
              replace p131 := eq_true p131
              replace q131 := eq_true q131
              go_wp2_with (first | ((with_reducible refine gate_callee (f := 91) rfl ?_); refine goesL_ (some 23) rfl rfl Try.func91 (by kernel_rfl) rfl #[.agg #[.string ((rd_T129 l0 x5_1).f0), .string ((rd_T129 l0 x5_1).f1)], .int .i64 x1_1] rfl t3_ ?_; (with_reducible refine (laws_szPair.calls ((rd_T129 l0 x5_1).f0) ((rd_T129 l0 x5_1).f1) x1_1 t132 _ A6.out).mono ?_); rintro e w8 ⟨rfl, hb⟩; refine ⟨_, rfl, ?_⟩; replace HB := Aside0.mk (below_step t0_ hb); (try clear hb); (try clear hb2); (try clear hk); (try clear hi)))
              go_ret
              exact ⟨by first | rfl | (simp [errW_none, errW_some] <;> rfl) | (simp [*, errW_none, errW_some] <;> rfl), t0_⟩
            · rw [if_neg c7] at H
              have c7b0 : decide (t132 < 0) = false := decide_eq_false c7
              clear c7
              have H' := Aside0.mk H
              clear H
              have p131 : 0 ≤ (x5_1 : Int) := of_decide_eq_true t2_
              have q131 : x5_1 < (l0.length : Int) := of_decide_eq_true t2_
              obtain ⟨ad131, e131, hx131_0, hx131_1⟩ := at_T129 HR0.out x5_1 p131 q131
              cases e131
              replace hx131_0 := (HB.out.cell (World.block_lt_of_cell? w _ hx131_0)).trans hx131_0
              replace hx131_1 := (HB.out.cell (World.block_lt_of_cell? w _ hx131_1)).trans hx131_1
              replace p131 := eq_true p131
              replace q131 := eq_true q131
              go_wp2_with (first | ((with_reducible refine gate_callee (f := 91) rfl ?_); refine goesL_ (some 23) rfl rfl Try.func91 (by kernel_rfl) rfl #[.agg #[.string ((rd_T129 l0 x5_1).f0), .string ((rd_T129 l0 x5_1).f1)], .int .i64 x1_1] rfl t3_ ?_; (with_reducible refine (laws_szPair.calls ((rd_T129 l0 x5_1).f0) ((rd_T129 l0 x5_1).f1) x1_1 t132 _ A6.out).mono ?_); rintro e w9 ⟨rfl, hb⟩; refine ⟨_, rfl, ?_⟩; replace HB := Aside0.mk (below_step t0_ hb); (try clear hb); (try clear hb2); (try clear hk); (try clear hi)))
              go_roundg k1
              case measure => have := HK1.out; omega
              case rel => exact ⟨(t132), (wrap64 (x5_1 + 1)), t7_, t7_, H', ⟨by have := HK1.out; omega⟩, ⟨t0_⟩⟩
          · rw [if_neg c5] at H
            exact absurd H (by simp)
        · rw [if_neg c4] at H
          have c4b0 : decide (x5_1 < (l0.length : Int)) = false := decide_eq_false c4
          clear c4
          obtain rfl := Option.some.inj H
          go_wp2
          go_ret
          exact ⟨by first | rfl | (simp [errW_none, errW_some] <;> rfl) | (simp [*, errW_none, errW_some] <;> rfl), t0_⟩

/-! ### laws_toPair: function 97 -/
def laws_toPair.f (a0_0 : ByteArray) (a0_1 : ByteArray) : Option (ByteArray × ByteArray) := some (a0_0, a0_1)
set_option maxHeartbeats 8000000 in
set_option maxRecDepth 100000 in
theorem laws_toPair.calls (a0_0 : ByteArray) (a0_1 : ByteArray) (r1 : ByteArray) (r2 : ByteArray) (w : World) (h : laws_toPair.f a0_0 a0_1 = some (r1, r2)) :
    Calls Try.prog 97 #[.agg #[.string a0_0, .string a0_1]] w fun e w' => e = .returned (.agg #[.string r1, .string r2]) ∧ Below w.heap.size w w' := by
  have hu129 := Try.underlying129
  have hu59 := Try.underlying59
  have HB := Aside0.mk (Below.refl w.heap.size w)
  have H : (some (a0_0, a0_1)) = some (r1, r2) := h
  clear h
  simp only [Option.some.injEq, Prod.mk.injEq] at H
  obtain ⟨rfl, rfl⟩ := H
  go_enter Try.func97, Try.ntmps97
  go_wp2_with (first | ((with_reducible refine gate_dst (N := 1) rfl ?_); refine boxE (N := 1) (cs := #[.string a0_0, .string a0_1]) (t := 129) (h := ?_); intro gb133 hg w2 hbox hb; have BK133 := Aside0.mk (hbox); have GW133 := Aside0.mk ((t1_ : w.heap.size ≤ gb133)); have GE133 := Aside0.mk ((t1_ : w.heap.size ≤ gb133)); replace HB := Aside0.mk (below_step t0_ hb); clear hb hbox hg) | ((with_reducible refine gate_dst (N := 2) rfl ?_); refine boxE (N := 2) (cs := #[.string (⟨#[]⟩ : ByteArray), .string (⟨#[]⟩ : ByteArray)]) (t := 59) (h := ?_); intro gb134 hg w3 hbox hb; have BK134 := Aside0.mk (hbox); have GW134 := Aside0.mk ((by rw [hg]; exact (below_size (by repeat (first | (with_reducible first | exact HB.out | apply below_alloc | apply pw_below_drewN | apply below_drew1 | refine below_set ?_ GE133.out) | exact HB.out))) : w.heap.size ≤ gb134)); have GE134 := Aside0.mk ((by rw [hg]; exact (below_size (by repeat (first | (with_reducible first | exact HB.out | apply below_alloc | apply pw_below_drewN | apply below_drew1 | refine below_set ?_ GE133.out) | exact HB.out))) : w.heap.size ≤ gb134)); replace HB := Aside0.mk (below_step (by repeat (first | (with_reducible first | exact HB.out | apply below_alloc | apply pw_below_drewN | apply below_drew1 | refine below_set ?_ GE133.out) | exact HB.out)) hb); have NB133_134 := nbL BK133 hg; have NB134_133 := nbG BK133 hg; replace BK133 := bkN BK133 hb; clear hb hbox hg) | ((with_reducible refine gate_dst (N := 3) rfl ?_); refine boxE (N := 3) (cs := #[.string (⟨#[]⟩ : ByteArray), .string (⟨#[]⟩ : ByteArray)]) (t := 59) (h := ?_); intro gb135 hg w4 hbox hb; have BK135 := Aside0.mk (hbox); have GW135 := Aside0.mk ((by rw [hg]; exact (below_size (by repeat (first | (with_reducible first | exact HB.out | apply below_alloc | apply pw_below_drewN | apply below_drew1 | refine below_set ?_ GE133.out | refine below_set ?_ GE134.out) | exact HB.out))) : w.heap.size ≤ gb135)); have GE135 := Aside0.mk ((by rw [hg]; exact (below_size (by repeat (first | (with_reducible first | exact HB.out | apply below_alloc | apply pw_below_drewN | apply below_drew1 | refine below_set ?_ GE133.out | refine below_set ?_ GE134.out) | exact HB.out))) : w.heap.size ≤ gb135)); replace HB := Aside0.mk (below_step (by repeat (first | (with_reducible first | exact HB.out | apply below_alloc | apply pw_below_drewN | apply below_drew1 | refine below_set ?_ GE133.out | refine below_set ?_ GE134.out) | exact HB.out)) hb); have NB133_135 := nbL BK133 hg; have NB135_133 := nbG BK133 hg; replace BK133 := bkN BK133 hb; have NB134_135 := nbL BK134 hg; have NB135_134 := nbG BK134 hg; replace BK134 := bkN BK134 hb; clear hb hbox hg; have hnb5 := NB133_134.out; have hnc5 := NB134_133.out; have hnb6 := NB133_135.out; have hnc6 := NB135_133.out; have hcz7_0 := bc0 BK133; have hcz7_1 := bc1 BK133; have hfz7_0 := bf BK133 0; have hfz7_1 := bf BK133 1; have hnb8 := NB135_134.out; have hnc8 := NB134_135.out; have hcz9_0 := bc0 BK135; have hcz9_1 := bc1 BK135; have hfz9_0 := bf BK135 0; have hfz9_1 := bf BK135 1; have hcz10_0 := bc0 BK134; have hcz10_1 := bc1 BK134; have hfz10_0 := bf BK134 0; have hfz10_1 := bf BK134 1))
  refine bodyPost_ret (results_cell_row rfl _ _ gb134 59 #[.string a0_0, .string a0_1] (0, 0) _ rfl (by (with_reducible repeat (first | refine blk_drewN ?_ _ | refine blk_drew ?_ | refine blk_alloc ?_ _)); refine blk_put (cs := #[.string a0_0, .string (⟨#[]⟩ : ByteArray)]) ?_ 1 _ rfl; (with_reducible repeat (first | refine blk_drewN ?_ _ | refine blk_drew ?_ | refine blk_alloc ?_ _)); refine blk_put (cs := #[.string (⟨#[]⟩ : ByteArray), .string (⟨#[]⟩ : ByteArray)]) ?_ 0 _ rfl; (with_reducible repeat (first | refine blk_drewN ?_ _ | refine blk_drew ?_ | refine blk_alloc ?_ _)); refine blk_far ?_ NB134_135.out _; (with_reducible repeat (first | refine blk_drewN ?_ _ | refine blk_drew ?_ | refine blk_alloc ?_ _)); refine blk_far ?_ NB134_135.out _; (with_reducible repeat (first | refine blk_drewN ?_ _ | refine blk_drew ?_ | refine blk_alloc ?_ _)); exact BK134.out) Try.underlying59 rfl (by kernel_rfl)) rfl ?_
  exact ⟨by first | rfl | (simp [errW_none, errW_some] <;> rfl) | (simp [*, errW_none, errW_some] <;> rfl), by repeat (first | (with_reducible first | exact HB.out | apply below_alloc | apply pw_below_drewN | apply below_drew1 | refine below_set ?_ GE133.out | refine below_set ?_ GE134.out | refine below_set ?_ GE135.out) | exact HB.out)⟩

/-! ### laws_toPairS: function 44 -/
def laws_toPairS.l0 : Nat → List (S129) → List (S59) → Int → Option ((List (S59)))
  | 0, _, _, _ => none
  | k + 1, x0, x3, x4 => if x4 < (x0.length : Int) then (if 0 ≤ x4 then ((laws_toPair.f ((rd_T129 x0 x4).f0) ((rd_T129 x0 x4).f1)).bind fun bt140 => (if x4 < (x3.length : Int) then (laws_toPairS.l0 k x0 (x3.set (x4 : Int).toNat (⟨bt140.1, bt140.2⟩ : S59)) (wrap64 (x4 + 1))) else (none))) else (none)) else (some x3)
def laws_toPairS.f (k : Nat) (l0 : List (S129)) : Option ((List (S59))) := if 0 ≤ (l0.length : Int) then (if ((l0.length : Int) : Int).toNat ≤ 8796093022208 then (laws_toPairS.l0 k l0 (List.replicate ((l0.length : Int) : Int).toNat z59) 0) else (none)) else (none)
theorem laws_toPairS.mono_l : ∀ k, (∀ y0 y1 y2, LeO (laws_toPairS.l0 k y0 y1 y2) (laws_toPairS.l0 (k + 1) y0 y1 y2))
  | 0 => fun _ _ _ r h => by simp [laws_toPairS.l0] at h
  | k + 1 => by
    have ih0 := laws_toPairS.mono_l k
    · intro y0 y1 y2
      unfold laws_toPairS.l0
      repeat' first
      | (with_reducible exact ih0 _ _ _)
      | (with_reducible exact LeO.refl _)
      | (with_reducible exact LeO.none _)
      | (with_reducible refine LeO.ite ?_ ?_)
      | (with_reducible refine LeO.bind ?_ (fun _ => ?_))
      | exact ih0 _ _ _
      | exact LeO.none _
      | refine LeO.ite ?_ ?_
      | refine LeO.bind ?_ (fun _ => ?_)
theorem laws_toPairS.mono : ∀ a0 k, LeO (laws_toPairS.f k a0) (laws_toPairS.f (k + 1) a0) := by
  intro a0 k
  have ih0 := laws_toPairS.mono_l k
  unfold laws_toPairS.f
  repeat' first
      | (with_reducible exact ih0 _ _ _)
      | (with_reducible exact LeO.refl _)
      | (with_reducible exact LeO.none _)
      | (with_reducible refine LeO.ite ?_ ?_)
      | (with_reducible refine LeO.bind ?_ (fun _ => ?_))
      | exact ih0 _ _ _
      | exact LeO.none _
      | refine LeO.ite ?_ ?_
      | refine LeO.bind ?_ (fun _ => ?_)
set_option maxHeartbeats 8000000 in
set_option maxRecDepth 100000 in
theorem laws_toPairS.calls (k : Nat) (A0 : Option Addr) (c0 : Nat) (l0 : List (S129)) (r : List (S59)) (w : World) (hr0 : Kd.C k129 w A0 l0.length l0) (hc0 : l0.length ≤ c0) (h : laws_toPairS.f k l0 = some r) :
    Calls Try.prog 44 #[.slice A0 l0.length c0] w fun e w' => ∃ v0_ : Value, e = .returned (v0_) ∧ Kd.R k59 59 w' w.heap.size (fun _ => True) v0_ r ∧ Below w.heap.size w w' := by
  have hu129 := Try.underlying129
  have hu59 := Try.underlying59
  have HR0 := Aside0.mk hr0
  have HC0 := Aside0.mk hc0
  clear hr0 hc0
  have HB := Aside0.mk (Below.refl w.heap.size w)
  have H : (if 0 ≤ (l0.length : Int) then (if ((l0.length : Int) : Int).toNat ≤ 8796093022208 then (laws_toPairS.l0 k l0 (List.replicate ((l0.length : Int) : Int).toNat z59) 0) else (none)) else (none)) = some r := h
  clear h
  by_cases c2 : 0 ≤ (l0.length : Int)
  · rw [if_pos c2] at H
    have c2b0 := eq_true c2
    have c2b1 : decide (0 ≤ (l0.length : Int)) = true := decide_eq_true c2
    clear c2
    by_cases c3 : ((l0.length : Int) : Int).toNat ≤ 8796093022208
    · rw [if_pos c3] at H
      have c3b0 := eq_true c3
      have c3b1 : decide (((l0.length : Int) : Int).toNat ≤ 8796093022208) = true := decide_eq_true c3
      clear c3
      obtain ⟨y136, hy136⟩ : ∃ y_ : List (S59), y_ = (List.replicate ((l0.length : Int) : Int).toNat z59) := ⟨_, rfl⟩
      replace H : (laws_toPairS.l0 k l0 y136 0) = some r := by first | (rw [hy136]; with_reducible exact H) | (have H2_ := (Option.bind_some _ _).symm.trans H; rw [hy136]; with_reducible exact H2_) | (have H2_ := (Option.bind_some _ _).symm.trans H; with_reducible exact H2_) | with_reducible exact H | (rw [hy136]; exact H) | exact H
      have Ny136 := Aside0.mk hy136
      clear hy136
      have H' := Aside0.mk H
      clear H
      go_enter Try.func44, Try.ntmps44
      go_wp2_with (first | ((with_reducible refine gate_dst (N := 7) rfl ?_); refine Kd.R_make k59 _ 59 rfl (N := 7) rfl 43 _ _ rfl (l0.length : Int) rfl rfl Try.underlying43 (.agg #[(.string ⟨#[]⟩), (.string ⟨#[]⟩)]) 32 info59 rfl (by decide) (by omega) z59 (ok := fun _ => True) (okp := fun _ => True) (k59_mkM _ _ _ z59 ) (fun _ hk => hk) trivial (of_decide_eq_true t2_) (Nat.le_trans (Nat.mul_le_mul_right _ (of_decide_eq_true t2_ : (l0.length : Int).toNat ≤ 8796093022208)) (by omega)) (Below.refl _ _) (Nat.le_refl _) ?_; intro v137 w4 ho5 hb hg_ hnew_; clear hg_ hnew_; (first | rw [← Ny136.out] at ho5 | (simp only [Int.reduceToNat] at ho5; rw [← Ny136.out] at ho5)); have HO138 := Aside0.mk (Kd.R_lower ho5 (below_size t0_)); replace HB := Aside0.mk (below_step t0_ hb); clear hb ho5))
      go_loopg [4] k (fun kq v4 w' => ∃ (x3_1 : List (S59)) (x4_1 : Int), v4 = .int .i64 x4_1 ∧ Aside0 (laws_toPairS.l0 kq l0 x3_1 x4_1 = some r) ∧ Aside0 (kq ≤ k) ∧ Aside0 (Kd.R k59 59 w' w.heap.size (fun _ => True) v137 x3_1) ∧ Aside0 (Below w.heap.size w w'))
      case atStart => exact ⟨(y136), (0), t7_, H', ⟨Nat.le_refl _⟩, ⟨by (with_reducible repeat (first | apply Kd.R_alloc | apply Kd.R_drewN | apply Kd.R_drew)); exact HO138.out⟩, ⟨t0_⟩⟩
      case round =>
        clear H'
        try clear c2
        try clear c2b0
        try clear c2b1
        try clear p2
        try clear c3
        try clear c3b0
        try clear c3b1
        try clear c4
        obtain ⟨x3_1, x4_1, rfl, HA, HK1, HO_3, HB⟩ := hrel
        cases gk with
        | zero => exact absurd HA.out (by simp [laws_toPairS.l0])
        | succ k1 =>
          have H := HA.out
          clear HA
          simp only [laws_toPairS.l0] at H
          by_cases c6 : x4_1 < (l0.length : Int)
          · rw [if_pos c6] at H
            have c6b0 : decide (x4_1 < (l0.length : Int)) = true := decide_eq_true c6
            clear c6
            by_cases c7 : 0 ≤ x4_1
            · rw [if_pos c7] at H
              have c7b0 : decide (0 ≤ x4_1) = true := decide_eq_true c7
              clear c7
              replace H := Option.bind_eq_some_iff.mp H
              obtain ⟨⟨t140, t141⟩, A80, H⟩ := H
              replace H : (if x4_1 < (x3_1.length : Int) then (laws_toPairS.l0 k1 l0 (x3_1.set (x4_1 : Int).toNat (⟨t140, t141⟩ : S59)) (wrap64 (x4_1 + 1))) else (none)) = some r := H
              have A8 := Aside0.mk A80
              clear A80
              by_cases c9 : x4_1 < (x3_1.length : Int)
              · rw [if_pos c9] at H
                have c9b0 : decide (x4_1 < (x3_1.length : Int)) = true := decide_eq_true c9
                clear c9
                obtain ⟨y142, hy142⟩ : ∃ y_ : List (S59), y_ = (x3_1.set (x4_1 : Int).toNat (⟨t140, t141⟩ : S59)) := ⟨_, rfl⟩
                replace H : (laws_toPairS.l0 k1 l0 y142 (wrap64 (x4_1 + 1))) = some r := by first | (rw [hy142]; with_reducible exact H) | (have H2_ := (Option.bind_some _ _).symm.trans H; rw [hy142]; with_reducible exact H2_) | (have H2_ := (Option.bind_some _ _).symm.trans H; with_reducible exact H2_) | with_reducible exact H | (rw [hy142]; exact H) | exact H
                have Ny142 := Aside0.mk hy142
                clear hy142
                have H' := Aside0.mk H
                clear H
                have p139 : 0 ≤ (x4_1 : Int) := of_decide_eq_true t2_
                have q139 : x4_1 < (l0.length : Int) := of_decide_eq_true t2_
                obtain ⟨ad139, e139, hx139_0, hx139_1⟩ := at_T129 HR0.out x4_1 p139 q139
                cases e139
                replace hx139_0 := (HB.out.cell (World.block_lt_of_cell? w _ hx139_0)).trans hx139_0
                replace hx139_1 := (HB.out.cell (World.block_lt_of_cell? w _ hx139_1)).trans hx139_1
                replace p139 := eq_true p139
                replace q139 := eq_true q139
                go_wp2_with (first | ((with_reducible refine gate_callee (f := 97) rfl ?_); refine goesL_ (some 20) rfl rfl Try.func97 (by kernel_rfl) rfl #[.agg #[.string ((rd_T129 l0 x4_1).f0), .string ((rd_T129 l0 x4_1).f1)]] rfl t3_ ?_; (with_reducible refine (laws_toPair.calls ((rd_T129 l0 x4_1).f0) ((rd_T129 l0 x4_1).f1) t140 t141 _ A8.out).mono ?_); rintro e w11 ⟨rfl, hb⟩; refine ⟨_, rfl, ?_⟩; replace HO_3 := Aside0.mk (Kd.R_below (by (with_reducible repeat (first | apply Kd.R_alloc | apply Kd.R_drewN | apply Kd.R_drew)); exact HO_3.out) hb); replace HB := Aside0.mk (below_step t0_ hb); (try clear hb); (try clear hb2); (try clear hk); (try clear hi); have p10 : 0 ≤ (x4_1 : Int) := of_decide_eq_true t2_; have q10 : (x4_1 : Int) < ((x3_1.length : Int) : Int) := of_decide_eq_true t2_; obtain ⟨go10, co10, eo10, gb10, gl10, cl10, HG10⟩ := Kd.R_form HO_3.out (by omega); (first | cases eo10 | (injection eo10 with ea_ en_ ec_; (first | subst ea_ | (injection ea_ with ea_; subst ea_)); subst ec_; clear en_)); have GB10 := Aside0.mk gb10; have GG10 := Aside0.mk HG10; clear gb10 gl10 HG10; obtain ⟨ce10, hcl10, hM10, hcc10, hfr10⟩ := Kd.R_elem HO_3.out z59 (x4_1 : Int) p10 q10; obtain rfl := k59_openM hM10; have hx10_0 : w11.cell? ⟨go10, (x4_1 : Int).toNat * 2, none⟩ = some (.string ((rd_T59 x3_1 x4_1).f0)) := hcc10 0 _ rfl; have hx10_1 : w11.cell? ⟨go10, (x4_1 : Int).toNat * 2 + 1, none⟩ = some (.string ((rd_T59 x3_1 x4_1).f1)) := hcc10 1 _ rfl; have hf10_0 : w11.frozen? ⟨go10, (x4_1 : Int).toNat * 2, none⟩ = false := hfr10 0; have hf10_1 : w11.frozen? ⟨go10, (x4_1 : Int).toNat * 2 + 1, none⟩ = false := hfr10 1; clear hcl10 hcc10 hfr10 hM10; replace p10 := eq_true p10; replace q10 := eq_true q10; have HX12 := Aside0.mk (show Kd.R k59 59 w11 w.heap.size (fun _ => True) (.slice (some ⟨go10, 0, none⟩) x3_1.length co10) x3_1 from (by (with_reducible repeat (first | apply Kd.R_alloc | apply Kd.R_drewN | apply Kd.R_drew)); exact HO_3.out)); obtain ⟨ce12, hcl12, hM12, hcc12, hfr12⟩ := Kd.R_elem HX12.out z59 (x4_1 : Int) (of_decide_eq_true t2_) (by have h_ : (x4_1 : Int) < ((x3_1.length : Int) : Int) := of_decide_eq_true t2_; first | exact h_ | (have e_ := (Kd.R_reads' HO_3.out).1; omega) | simpa using h_); obtain rfl := k59_openM hM12; have HP12 := Kd.R_seg HX12.out (x4_1 : Int) (of_decide_eq_true t2_) (by have h_ : (x4_1 : Int) < ((x3_1.length : Int) : Int) := of_decide_eq_true t2_; first | exact h_ | (have e_ := (Kd.R_reads' HO_3.out).1; omega) | simpa using h_) (seg := [.string t140, .string t141]) (j := 0) hcl12 hcc12 (show 2 ≤ 2 from by decide) (x' := (⟨t140, t141⟩ : S59)) (k59_mkM _ _ _ (⟨t140, t141⟩ : S59) ) (fun _ hk => hk); have hx12_0 := hcc12 0 _ rfl; (try simp only [show (k59).sz = 2 from rfl, Nat.mul_one, Nat.add_zero] at hx12_0); have hf12_0 := hfr12 0; (try simp only [show (k59).sz = 2 from rfl, Nat.mul_one, Nat.add_zero] at hf12_0); have hx12_1 := hcc12 1 _ rfl; (try simp only [show (k59).sz = 2 from rfl, Nat.mul_one, Nat.add_zero] at hx12_1); have hf12_1 := hfr12 1; (try simp only [show (k59).sz = 2 from rfl, Nat.mul_one, Nat.add_zero] at hf12_1); clear hcl12 hcc12 hfr12 hM12) | ((with_reducible refine gate_store (t := 59) (p := 21) rfl ?_); refine store_event (t := 59) (p := 21) (v := ?vo_w13) (w1 := ((w11.setCell ⟨go10, (x4_1 : Int).toNat * 2, none⟩ (.string t140)).setCell ⟨go10, (x4_1 : Int).toNat * 2 + 1, none⟩ (.string t141))) ?hg ?ho ?hn ?hr ?_; (case ho => rfl); (case hg => rfl); (case hn => rfl); (case hr => first | (go_simp; done) | (go_simp; rfl)); intro w13 hw; have hg : w11.grownBy w13 (some go10) := (by rw [hw]; exact HP12.2); have hp_ : Kd.R k59 59 w13 w.heap.size (fun _ => True) (.slice (some ⟨go10, 0, none⟩) x3_1.length co10) y142 := (by rw [hw, Ny142.out]; exact HP12.1); clear HP12; replace HO_3 := Aside0.mk (hp_); replace HB := Aside0.mk ((by rw [hw]; exact below_set (below_set (HB.out) GB10.out) GB10.out : Below w.heap.size w w13)); clear hg hw hp_))
                go_roundg k1
                case measure => have := HK1.out; omega
                case rel => exact ⟨(y142), (wrap64 (x4_1 + 1)), t7_, H', ⟨by have := HK1.out; omega⟩, ⟨by (with_reducible repeat (first | apply Kd.R_alloc | apply Kd.R_drewN | apply Kd.R_drew)); exact HO_3.out⟩, ⟨t0_⟩⟩
              · rw [if_neg c9] at H
                exact absurd H (by simp)
            · rw [if_neg c7] at H
              exact absurd H (by simp)
          · rw [if_neg c6] at H
            have c6b0 : decide (x4_1 < (l0.length : Int)) = false := decide_eq_false c6
            clear c6
            obtain rfl := Option.some.inj H
            go_wp2
            go_ret
            exact ⟨_, by first | rfl | (simp [errW_none, errW_some] <;> rfl) | (simp [*, errW_none, errW_some] <;> rfl), by (with_reducible repeat (first | apply Kd.R_alloc | apply Kd.R_drewN | apply Kd.R_drew)); exact HO_3.out, t0_⟩
    · rw [if_neg c3] at H
      exact absurd H (by simp)
  · rw [if_neg c2] at H
    exact absurd H (by simp)

/-! ### laws_eqPair: function 99 -/
def laws_eqPair.f (a0_0 : ByteArray) (a0_1 : ByteArray) (a1_0 : ByteArray) (a1_1 : ByteArray) : Option (Bool) := if a0_0.toList = a1_0.toList then (if a0_1.toList = a1_1.toList then (some true) else (none)) else (none)
set_option maxHeartbeats 8000000 in
set_option maxRecDepth 100000 in
theorem laws_eqPair.calls (a0_0 : ByteArray) (a0_1 : ByteArray) (a1_0 : ByteArray) (a1_1 : ByteArray) (r : Bool) (w : World) (h : laws_eqPair.f a0_0 a0_1 a1_0 a1_1 = some r) :
    Calls Try.prog 99 #[.agg #[.string a0_0, .string a0_1], .agg #[.string a1_0, .string a1_1]] w fun e w' => e = .returned (.bool r) ∧ Below w.heap.size w w' := by
  have hu59 := Try.underlying59
  have HB := Aside0.mk (Below.refl w.heap.size w)
  have H : (if a0_0.toList = a1_0.toList then (if a0_1.toList = a1_1.toList then (some true) else (none)) else (none)) = some r := h
  clear h
  by_cases c3 : a0_0.toList = a1_0.toList
  · rw [if_pos c3] at H
    have c3b0 : (a0_0.toList == a1_0.toList) = true := beq_iff_eq.mpr c3
    have c3b1 : (a0_0.toList != a1_0.toList) = false := bne_eq_false_iff_eq.mpr c3
    clear c3
    by_cases c4 : a0_1.toList = a1_1.toList
    · rw [if_pos c4] at H
      have c4b0 : (a0_1.toList == a1_1.toList) = true := beq_iff_eq.mpr c4
      have c4b1 : (a0_1.toList != a1_1.toList) = false := bne_eq_false_iff_eq.mpr c4
      clear c4
      obtain rfl := Option.some.inj H
      go_enter Try.func99, Try.ntmps99
      go_wp2_with (first | ((with_reducible refine gate_dst (N := 2) rfl ?_); refine boxE (N := 2) (cs := #[.string a0_0, .string a0_1]) (t := 59) (h := ?_); intro gb143 hg w5 hbox hb; have BK143 := Aside0.mk (hbox); have GW143 := Aside0.mk ((t1_ : w.heap.size ≤ gb143)); have GE143 := Aside0.mk ((t1_ : w.heap.size ≤ gb143)); replace HB := Aside0.mk (below_step t0_ hb); clear hb hbox hg) | ((with_reducible refine gate_dst (N := 3) rfl ?_); refine boxE (N := 3) (cs := #[.string a1_0, .string a1_1]) (t := 59) (h := ?_); intro gb144 hg w6 hbox hb; have BK144 := Aside0.mk (hbox); have GW144 := Aside0.mk ((by rw [hg]; exact (below_size (by repeat (first | (with_reducible first | exact HB.out | apply below_alloc | apply pw_below_drewN | apply below_drew1 | refine below_set ?_ GE143.out) | exact HB.out))) : w.heap.size ≤ gb144)); have GE144 := Aside0.mk ((by rw [hg]; exact (below_size (by repeat (first | (with_reducible first | exact HB.out | apply below_alloc | apply pw_below_drewN | apply below_drew1 | refine below_set ?_ GE143.out) | exact HB.out))) : w.heap.size ≤ gb144)); replace HB := Aside0.mk (below_step (by repeat (first | (with_reducible first | exact HB.out | apply below_alloc | apply pw_below_drewN | apply below_drew1 | refine below_set ?_ GE143.out) | exact HB.out)) hb); have NB143_144 := nbL BK143 hg; have NB144_143 := nbG BK143 hg; replace BK143 := bkN BK143 hb; clear hb hbox hg; have hnb7 := NB143_144.out; have hnc7 := NB144_143.out; have hcz8_0 := bc0 BK143; have hcz8_1 := bc1 BK143; have hfz8_0 := bf BK143 0; have hfz8_1 := bf BK143 1; have hcz9_0 := bc0 BK144; have hcz9_1 := bc1 BK144; have hfz9_0 := bf BK144 0; have hfz9_1 := bf BK144 1))
      go_ret
      exact ⟨by first | rfl | (simp [errW_none, errW_some] <;> rfl) | (simp [*, errW_none, errW_some] <;> rfl), by repeat (first | (with_reducible first | exact HB.out | apply below_alloc | apply pw_below_drewN | apply below_drew1 | refine below_set ?_ GE143.out | refine below_set ?_ GE144.out) | exact HB.out)⟩
    · rw [if_neg c4] at H
      exact absurd H (by simp)
  · rw [if_neg c3] at H
    exact absurd H (by simp)

end Go.Proofs.Ytpjhbhjmaggheaa.QFnExactMapBetween
