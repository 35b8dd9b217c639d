-- By a program of this session, over the kit's print.
import Derived.Test.YtpjhbhjmaggheaaQFnExactPutRawsx0
import Derived.Test.YtpjhbhjmaggheaaQFnExactPutRawsx3
import Derived.Test.YtpjhbhjmaggheaaQFnExactPutRawsx4
import Derived.Test.YtpjhbhjmaggheaaQFnExactPutRawsx5
namespace Go.Proofs.Ytpjhbhjmaggheaa.QFnExactPutRaws
open Go.RowKit Go.Proofs.YtpjhbhjmaggheaaW.PrintWords Go.Proofs.YtpjhbhjmaggheaaW.PrintLast Go.Proofs.YtpjhbhjmaggheaaW.PrintMore
attribute [local go_sem] max2_int min2_int max_two min_two max_three min_three max_four min_four   -- for this text's walks alone
set_option linter.unusedVariables false
set_option linter.unusedSimpArgs false

/-! ### impl_PutRaws: function 31 -/
mutual
def impl_PutRaws.j0 : Nat → List (S65) → Bool → List (S71) → Option ((List (S71)) × Int)
  | 0, _, _, _ => none
  | k + 1, x1, x18, x248000 => if x18 = true then (some (([] : List (S71)), 0)) else ((impl_copyDisk.f x248000).bind fun t250 => (impl_PutRaws.l0 k x1 x1 (x1.length : Int) 0 t250))
def impl_PutRaws.l0 : Nat → List (S65) → List (S65) → Int → Int → List (S71) → Option ((List (S71)) × Int)
  | 0, _, _, _, _, _ => none
  | k + 1, x1, x22, x23, x24, x254000 => if x24 < x23 then (if 0 ≤ x24 then (if x24 < (x22.length : Int) then ((impl_PutRaw.f k x254000 ((rd_T65 x22 x24).f0) ((rd_T65 x22 x24).f1) ((rd_T65 x22 x24).f2) ((rd_T65 x22 x24).f3)).bind fun bt256 => (if bt256.2 = true then (impl_PutRaws.l0 k x1 x22 x23 (wrap64 (x24 + 1)) bt256.1) else (some (x254000, x24)))) else (none)) else (none)) else (some (x254000, (x1.length : Int)))
end
def impl_PutRaws.f (k : Nat) (l0_0 : List (S71)) (l1 : List (S65)) : Option ((List (S71)) × Int) := (impl_DiskOk.f k l0_0).bind fun t249 => (if t249 = true then (impl_PutRaws.j0 k l1 (decide ((l1.length : Int) > 60)) l0_0) else (impl_PutRaws.j0 k l1 true l0_0))
theorem impl_PutRaws.mono_l : ∀ k, (∀ y0 y1 y2, LeO (impl_PutRaws.j0 k y0 y1 y2) (impl_PutRaws.j0 (k + 1) y0 y1 y2)) ∧ (∀ y0 y1 y2 y3 y4, LeO (impl_PutRaws.l0 k y0 y1 y2 y3 y4) (impl_PutRaws.l0 (k + 1) y0 y1 y2 y3 y4))
  | 0 => ⟨fun _ _ _ r h => by simp [impl_PutRaws.j0] at h, fun _ _ _ _ _ r h => by simp [impl_PutRaws.l0] at h⟩
  | k + 1 => by
    obtain ⟨ih0, ih1⟩ := impl_PutRaws.mono_l k
    refine ⟨?_, ?_⟩
    · intro y0 y1 y2
      unfold impl_PutRaws.j0
      repeat' first
      | (with_reducible exact ih0 _ _ _)
      | (with_reducible exact ih1 _ _ _ _ _)
      | (with_reducible exact impl_DiskOk.mono _ _)
      | (with_reducible exact impl_PutRaw.mono _ _ _ _ _ _)
      | (with_reducible exact LeO.refl _)
      | (with_reducible exact LeO.none _)
      | (with_reducible refine LeO.ite ?_ ?_)
      | (with_reducible refine LeO.bind ?_ (fun _ => ?_))
      | exact ih0 _ _ _
      | exact ih1 _ _ _ _ _
      | exact impl_DiskOk.mono _ _
      | exact impl_PutRaw.mono _ _ _ _ _ _
      | exact LeO.none _
      | refine LeO.ite ?_ ?_
      | refine LeO.bind ?_ (fun _ => ?_)
    · intro y0 y1 y2 y3 y4
      unfold impl_PutRaws.l0
      repeat' first
      | (with_reducible exact ih0 _ _ _)
      | (with_reducible exact ih1 _ _ _ _ _)
      | (with_reducible exact impl_DiskOk.mono _ _)
      | (with_reducible exact impl_PutRaw.mono _ _ _ _ _ _)
      | (with_reducible exact LeO.refl _)
      | (with_reducible exact LeO.none _)
      | (with_reducible refine LeO.ite ?_ ?_)
      | (with_reducible refine LeO.bind ?_ (fun _ => ?_))
      | exact ih0 _ _ _
      | exact ih1 _ _ _ _ _
      | exact impl_DiskOk.mono _ _
      | exact impl_PutRaw.mono _ _ _ _ _ _
      | exact LeO.none _
      | refine LeO.ite ?_ ?_
      | refine LeO.bind ?_ (fun _ => ?_)
theorem impl_PutRaws.mono : ∀ a0 a1 k, LeO (impl_PutRaws.f k a0 a1) (impl_PutRaws.f (k + 1) a0 a1) := by
  intro a0 a1 k
  obtain ⟨ih0, ih1⟩ := impl_PutRaws.mono_l k
  unfold impl_PutRaws.f
  repeat' first
      | (with_reducible exact ih0 _ _ _)
      | (with_reducible exact ih1 _ _ _ _ _)
      | (with_reducible exact impl_DiskOk.mono _ _)
      | (with_reducible exact impl_PutRaw.mono _ _ _ _ _ _)
      | (with_reducible exact LeO.refl _)
      | (with_reducible exact LeO.none _)
      | (with_reducible refine LeO.ite ?_ ?_)
      | (with_reducible refine LeO.bind ?_ (fun _ => ?_))
      | exact ih0 _ _ _
      | exact ih1 _ _ _ _ _
      | exact impl_DiskOk.mono _ _
      | exact impl_PutRaw.mono _ _ _ _ _ _
      | exact LeO.none _
      | refine LeO.ite ?_ ?_
      | refine LeO.bind ?_ (fun _ => ?_)
set_option maxHeartbeats 8000000 in
set_option maxRecDepth 100000 in
theorem impl_PutRaws.calls (k : Nat) (A0_0 : Option Addr) (c0_0 : Nat) (l0_0 : List (S71)) (A1 : Option Addr) (c1 : Nat) (l1 : List (S65)) (r1 : List (S71)) (r2 : Int) (w : World) (hr0_0 : Kd.C k71 w A0_0 l0_0.length l0_0) (hc0_0 : l0_0.length ≤ c0_0) (hr1 : Kd.C k65 w A1 l1.length l1) (hc1 : l1.length ≤ c1) (h : impl_PutRaws.f k l0_0 l1 = some (r1, r2)) :
    Calls Try.prog 31 #[.agg #[.slice A0_0 l0_0.length c0_0], .slice A1 l1.length c1] w fun e w' => ∃ v0_ : Value, e = .returned (.tuple #[.agg #[v0_], .int .i64 r2]) ∧ Kd.R k71 71 w' w.heap.size (fun _ => True) v0_ r1 ∧ Below w.heap.size w w' := by
  have hu30 := Try.underlying30
  have hu65 := Try.underlying65
  have HR0_0 := Aside0.mk hr0_0
  have HC0_0 := Aside0.mk hc0_0
  clear hr0_0 hc0_0
  have HR1 := Aside0.mk hr1
  have HC1 := Aside0.mk hc1
  clear hr1 hc1
  have HB := Aside0.mk (Below.refl w.heap.size w)
  have H : ((impl_DiskOk.f k l0_0).bind fun t249 => (if t249 = true then (impl_PutRaws.j0 k l1 (decide ((l1.length : Int) > 60)) l0_0) else (impl_PutRaws.j0 k l1 true l0_0))) = some (r1, r2) := h
  clear h
  have HC3 := Aside0.mk H
  clear H
  go_enter Try.func31, Try.ntmps31
  go_upto_region 1 with (first | ((with_reducible refine gate_dst (N := 2) rfl ?_); (try (refine gate_guard (by rfl) ?_; dsimp only)); refine boxE (N := 2) (cs := #[.slice A0_0 l0_0.length c0_0]) (t := 30) (h := ?_); intro gb247 hg w4 hbox hb; have BK247 := Aside0.mk (hbox); have GW247 := Aside0.mk ((t4_ : w.heap.size ≤ gb247)); have GE247 := Aside0.mk ((t4_ : w.heap.size ≤ gb247)); replace HB := Aside0.mk (below_step t0_ hb); clear hb hbox hg) | ((with_reducible refine gate_dst (N := 4) rfl ?_); (try (refine gate_guard (by rfl) ?_; dsimp only)); refine boxE (N := 4) (cs := #[.slice none 0 0]) (t := 30) (h := ?_); intro gb248 hg w5 hbox hb; have BK248 := Aside0.mk (hbox); have GW248 := Aside0.mk ((by rw [hg]; exact (below_size (by repeat (first | (with_reducible first | exact HB.out | apply below_alloc | apply pw_below_drewN | apply below_drew1 | refine below_set ?_ GE247.out) | exact HB.out))) : w.heap.size ≤ gb248)); have GE248 := Aside0.mk ((by rw [hg]; exact (below_size (by repeat (first | (with_reducible first | exact HB.out | apply below_alloc | apply pw_below_drewN | apply below_drew1 | refine below_set ?_ GE247.out) | exact HB.out))) : w.heap.size ≤ gb248)); replace HB := Aside0.mk (below_step (by repeat (first | (with_reducible first | exact HB.out | apply below_alloc | apply pw_below_drewN | apply below_drew1 | refine below_set ?_ GE247.out) | exact HB.out)) hb); have NB247_248 := nbL BK247 hg; have NB248_247 := nbG BK247 hg; replace BK247 := bkN BK247 hb; clear hb hbox hg))
  (try simp only [Act.put, List.setIfInBounds_toArray, List.set_cons_zero, List.set_cons_succ])
  go_cut [18] (fun v18 wc => ∃ (kq : Nat) (x18_2 : Bool), v18 = .bool x18_2 ∧ Aside0 (impl_PutRaws.j0 kq l1 x18_2 l0_0 = some (r1, r2)) ∧ Aside0 (kq ≤ k) ∧ Aside0 (wc.heap[gb247]? = some (.cells #[(.slice A0_0 l0_0.length c0_0)] 30 (0, 0))) ∧ Aside0 (wc.heap[gb248]? = some (.cells #[(.slice none 0 0)] 30 (0, 0))) ∧ Aside0 (Below w.heap.size w wc))
  case first =>
    have H := HC3.out
    clear HC3
    replace H := Option.bind_eq_some_iff.mp H
    obtain ⟨t249, A60, H⟩ := H
    replace H : (if t249 = true then (impl_PutRaws.j0 k l1 (decide ((l1.length : Int) > 60)) l0_0) else (impl_PutRaws.j0 k l1 true l0_0)) = some (r1, r2) := H
    have A6 := Aside0.mk A60
    clear A60
    by_cases c7 : t249 = true
    · subst c7
      have H1 : (impl_PutRaws.j0 k l1 (decide ((l1.length : Int) > 60)) l0_0) = some (r1, r2) := by rw [if_pos rfl] at H; exact H
      clear H
      have H := H1
      clear H1
      have H' := Aside0.mk H
      clear H
      have hnb8 := NB247_248.out
      have hnc8 := NB248_247.out
      have hcz9_0 := bc0 BK247
      have hfz9_0 := bf BK247 0
      go_wp2_with (first | ((with_reducible refine gate_callee (f := 34) rfl ?_); refine goesL_ (some 12) rfl rfl Try.func34 (by kernel_rfl) rfl #[.agg #[.slice A0_0 l0_0.length c0_0]] rfl t1_ ?_; (with_reducible refine (impl_DiskOk.calls k _ _ l0_0 true _ ?side1 ?side2 A6.out).mono ?_); (case side1 => exact cB HR0_0 HB); (case side2 => exact HC0_0.out); rintro e w10 ⟨rfl, hb⟩; refine ⟨_, rfl, ?_⟩; replace BK247 := bkN BK247 hb; replace BK248 := bkN BK248 hb; replace HB := Aside0.mk (below_step t29_ hb); (try clear hb); (try clear hb2); (try clear hk); (try clear hi)))
      go_meet
      case rel => exact ⟨_, (decide ((l1.length : Int) > 60)), t19_, H', ⟨by first | omega | exact Nat.le_refl _⟩, ⟨by (with_reducible repeat (first | refine blk_drewN ?_ _ | refine blk_drew ?_ | refine blk_alloc ?_ _)); exact BK247.out⟩, ⟨by (with_reducible repeat (first | refine blk_drewN ?_ _ | refine blk_drew ?_ | refine blk_alloc ?_ _)); exact BK248.out⟩, ⟨t29_⟩⟩
    · replace c7 := Bool.eq_false_iff.mpr c7
      subst c7
      have H1 : (impl_PutRaws.j0 k l1 true l0_0) = some (r1, r2) := by rw [if_neg (show ¬ (false = true) by decide)] at H; exact H
      clear H
      have H := H1
      clear H1
      have H' := Aside0.mk H
      clear H
      have hnb11 := NB247_248.out
      have hnc11 := NB248_247.out
      have hcz12_0 := bc0 BK247
      have hfz12_0 := bf BK247 0
      go_wp2_with (first | ((with_reducible refine gate_callee (f := 34) rfl ?_); refine goesL_ (some 12) rfl rfl Try.func34 (by kernel_rfl) rfl #[.agg #[.slice A0_0 l0_0.length c0_0]] rfl t1_ ?_; (with_reducible refine (impl_DiskOk.calls k _ _ l0_0 false _ ?side1 ?side2 A6.out).mono ?_); (case side1 => exact cB HR0_0 HB); (case side2 => exact HC0_0.out); rintro e w13 ⟨rfl, hb⟩; refine ⟨_, rfl, ?_⟩; replace BK247 := bkN BK247 hb; replace BK248 := bkN BK248 hb; replace HB := Aside0.mk (below_step t29_ hb); (try clear hb); (try clear hb2); (try clear hk); (try clear hi)))
      go_meet
      case rel => exact ⟨_, (true), t19_, H', ⟨by first | omega | exact Nat.le_refl _⟩, ⟨by (with_reducible repeat (first | refine blk_drewN ?_ _ | refine blk_drew ?_ | refine blk_alloc ?_ _)); exact BK247.out⟩, ⟨by (with_reducible repeat (first | refine blk_drewN ?_ _ | refine blk_drew ?_ | refine blk_alloc ?_ _)); exact BK248.out⟩, ⟨t29_⟩⟩
  case rest =>
    clear HC3
    try clear c1
    try clear p2
    try clear c3
    try clear c7
    try clear c8
    try clear c11
    try clear hcz12_0
    try clear hcz9_0
    try clear hfz12_0
    try clear hfz9_0
    obtain ⟨kq, x18_2, rfl, HA, HJ2, BK247, BK248, HB⟩ := hcut
    cases kq with
    | zero => exact absurd HA.out (by simp [impl_PutRaws.j0])
    | succ kj2 =>
      have H := HA.out
      clear HA
      simp only [impl_PutRaws.j0] at H
      by_cases c14 : x18_2 = true
      · subst c14
        have H1 : (some (([] : List (S71)), 0)) = some (r1, r2) := by rw [if_pos rfl] at H; exact H
        clear H
        have H := H1
        clear H1
        simp only [Option.some.injEq, Prod.mk.injEq] at H
        obtain ⟨rfl, rfl⟩ := H
        have hnb15 := NB248_247.out
        have hnc15 := NB247_248.out
        have hcz16_0 := bc0 BK248
        have hfz16_0 := bf BK248 0
        go_wp2
        refine bodyPost_ret (results_ct rfl _ _ gb248 30 #[.slice none 0 0] (0, 0) _ rfl (by (with_reducible repeat (first | refine blk_drewN ?_ _ | refine blk_drew ?_ | refine blk_alloc ?_ _)); refine blk_put (cs := #[.slice none 0 0]) ?_ 0 _ rfl; (with_reducible repeat (first | refine blk_drewN ?_ _ | refine blk_drew ?_ | refine blk_alloc ?_ _)); exact BK248.out) Try.underlying30 rfl (by kernel_rfl)) rfl ?_
        exact ⟨_, by first | rfl | (simp [errW_none, errW_some] <;> rfl) | (simp [*, errW_none, errW_some] <;> rfl), by first | exact Kd.R_nil _ _ _ _ _ | exact Kd.N_nil _ _ _ _ _ | exact Kd.V_nil _ _ _ _ _ | exact Kd.Q_nil _ _ _ _ _ | exact Kd.S_nil _ _ _ _ _, t29_⟩
      · replace c14 := Bool.eq_false_iff.mpr c14
        subst c14
        have H1 : ((impl_copyDisk.f l0_0).bind fun t250 => (impl_PutRaws.l0 kj2 l1 l1 (l1.length : Int) 0 t250)) = some (r1, r2) := by rw [if_neg (show ¬ (false = true) by decide)] at H; exact H
        clear H
        have H := H1
        clear H1
        replace H := Option.bind_eq_some_iff.mp H
        obtain ⟨t250, A170, H⟩ := H
        replace H : (impl_PutRaws.l0 kj2 l1 l1 (l1.length : Int) 0 t250) = some (r1, r2) := H
        have A17 := Aside0.mk A170
        clear A170
        have H' := Aside0.mk H
        clear H
        have hnb18 := NB247_248.out
        have hnc18 := NB248_247.out
        have hcz19_0 := bc0 BK247
        have hfz19_0 := bf BK247 0
        go_wp2_with (first | ((with_reducible refine gate_callee (f := 84) rfl ?_); refine goesL_ (some 21) rfl rfl Try.func84 (by kernel_rfl) rfl #[.agg #[.slice A0_0 l0_0.length c0_0]] rfl t1_ ?_; (with_reducible refine (impl_copyDisk.calls _ _ l0_0 t250 _ ?side1 ?side2 A17.out).mono ?_); (case side1 => exact cB HR0_0 HB); (case side2 => exact HC0_0.out); rintro e w20 ⟨v251, rfl, ho0, hb⟩; refine ⟨_, rfl, ?_⟩; have HO252 := Aside0.mk (Kd.R_lower ho0 (below_size t29_)); replace BK247 := bkN BK247 hb; replace BK248 := bkN BK248 hb; replace HB := Aside0.mk (below_step t29_ hb); (try clear hb); (try clear hb2); (try clear hk); (try clear hi); (try clear ho0)) | ((with_reducible refine gate_dst (N := 6) rfl ?_); (try (refine gate_guard (by rfl) ?_; dsimp only)); refine boxE (N := 6) (cs := #[.slice none 0 0]) (t := 30) (h := ?_); intro gb253 hg w21 hbox hb; replace HO252 := Aside0.mk (Kd.R_below (by (with_reducible repeat (first | apply Kd.R_alloc | apply Kd.R_drewN | apply Kd.R_drew)); exact HO252.out) hb); have BK253 := Aside0.mk (hbox); have GW253 := Aside0.mk ((by rw [hg]; exact (below_size t29_) : w.heap.size ≤ gb253)); have GE253 := Aside0.mk ((by rw [hg]; exact (below_size t29_) : w.heap.size ≤ gb253)); replace HB := Aside0.mk (below_step t29_ hb); have NB247_253 := nbL BK247 hg; have NB253_247 := nbG BK247 hg; replace BK247 := bkN BK247 hb; have NB248_253 := nbL BK248 hg; have NB253_248 := nbG BK248 hg; replace BK248 := bkN BK248 hb; clear hb hbox hg; obtain ⟨Ao22, co22, eo22⟩ := Kd.R_slice HO252.out; subst eo22; have hnb23 := NB253_247.out; have hnc23 := NB247_253.out; have hnb24 := NB253_248.out; have hnc24 := NB248_253.out; have hcz25_0 := bc0 BK253; have hfz25_0 := bf BK253 0))
        go_loopg [24] kj2 (fun kq v24 w' => ∃ (x24_2 : Int) (x254000_2 : List (S71)) (u254000 : Value), v24 = .int .i64 x24_2 ∧ Aside0 (impl_PutRaws.l0 kq l1 l1 (l1.length : Int) x24_2 x254000_2 = some (r1, r2)) ∧ Aside0 (kq ≤ kj2) ∧ Aside0 (Kd.R k71 71 w' w.heap.size (fun _ => True) u254000 x254000_2) ∧ Aside0 (w'.heap[gb247]? = some (.cells #[(.slice A0_0 l0_0.length c0_0)] 30 (0, 0))) ∧ Aside0 (w'.heap[gb248]? = some (.cells #[(.slice none 0 0)] 30 (0, 0))) ∧ Aside0 (w'.heap[gb253]? = some (.cells #[u254000] 30 (0, 0))) ∧ Aside0 (Below w.heap.size w w'))
        case atStart => exact ⟨(0), (t250), (.slice Ao22 t250.length co22), t19_, H', ⟨Nat.le_refl _⟩, ⟨by (with_reducible repeat (first | apply Kd.R_alloc | apply Kd.R_drewN | apply Kd.R_drew)); exact Kd.R_mono (Kd.R_far (p := ⟨gb253, 0, none⟩) (Kd.R_types HO252.out BK253.out (by decide)) (fun _ hk => hk.2) (.slice Ao22 t250.length co22)) (fun _ hk => trivial)⟩, ⟨by (with_reducible repeat (first | refine blk_drewN ?_ _ | refine blk_drew ?_ | refine blk_alloc ?_ _)); refine blk_far ?_ NB247_253.out _; (with_reducible repeat (first | refine blk_drewN ?_ _ | refine blk_drew ?_ | refine blk_alloc ?_ _)); exact BK247.out⟩, ⟨by (with_reducible repeat (first | refine blk_drewN ?_ _ | refine blk_drew ?_ | refine blk_alloc ?_ _)); refine blk_far ?_ NB248_253.out _; (with_reducible repeat (first | refine blk_drewN ?_ _ | refine blk_drew ?_ | refine blk_alloc ?_ _)); exact BK248.out⟩, ⟨by (with_reducible repeat (first | refine blk_drewN ?_ _ | refine blk_drew ?_ | refine blk_alloc ?_ _)); refine blk_put (cs := #[.slice none 0 0]) ?_ 0 _ rfl; (with_reducible repeat (first | refine blk_drewN ?_ _ | refine blk_drew ?_ | refine blk_alloc ?_ _)); exact BK253.out⟩, ⟨t31_⟩⟩
        case round =>
          clear H'
          try clear c1
          try clear c2
          try clear p2
          try clear c3
          try clear c7
          try clear c8
          try clear c11
          try clear c14
          try clear c15
          try clear c18
          try clear c23
          try clear c24
          try clear hcz12_0
          try clear hcz16_0
          try clear hcz19_0
          try clear hcz25_0
          try clear hcz9_0
          try clear hfz12_0
          try clear hfz16_0
          try clear hfz19_0
          try clear hfz25_0
          try clear hfz9_0
          try clear p2
          obtain ⟨x24_2, x254000_2, u254000, rfl, HA, HK2, HO_254000, BK247, BK248, BK253, HB⟩ := hrel
          cases gk with
          | zero => exact absurd HA.out (by simp [impl_PutRaws.l0])
          | succ k2 =>
            have H := HA.out
            clear HA
            simp only [impl_PutRaws.l0] at H
            by_cases c26 : x24_2 < (l1.length : Int)
            · rw [if_pos c26] at H
              have c26b0 : decide (x24_2 < (l1.length : Int)) = true := decide_eq_true c26
              clear c26
              by_cases c27 : 0 ≤ x24_2
              · rw [if_pos c27] at H
                have c27b0 : decide (0 ≤ x24_2) = true := decide_eq_true c27
                clear c27
                by_cases c28 : x24_2 < (l1.length : Int)
                · rw [if_pos c28] at H
                  have c28b0 : decide (x24_2 < (l1.length : Int)) = true := decide_eq_true c28
                  clear c28
                  replace H := Option.bind_eq_some_iff.mp H
                  obtain ⟨⟨t256, t259⟩, A290, H⟩ := H
                  replace H : (if t259 = true then (impl_PutRaws.l0 k2 l1 l1 (l1.length : Int) (wrap64 (x24_2 + 1)) t256) else (some (x254000_2, x24_2))) = some (r1, r2) := H
                  have A29 := Aside0.mk A290
                  clear A290
                  by_cases c30 : t259 = true
                  · subst c30
                    have H1 : (impl_PutRaws.l0 k2 l1 l1 (l1.length : Int) (wrap64 (x24_2 + 1)) t256) = some (r1, r2) := by rw [if_pos rfl] at H; exact H
                    clear H
                    have H := H1
                    clear H1
                    have H' := Aside0.mk H
                    clear H
                    have p254 : 0 ≤ (x24_2 : Int) := of_decide_eq_true t7_
                    have q254 : x24_2 < (l1.length : Int) := of_decide_eq_true t7_
                    obtain ⟨ad254, e254, hx254_0, hx254_1, hx254_2, hx254_3⟩ := at_T65 HR1.out x24_2 p254 q254
                    cases e254
                    replace hx254_0 := (HB.out.cell (World.block_lt_of_cell? w _ hx254_0)).trans hx254_0
                    replace hx254_1 := (HB.out.cell (World.block_lt_of_cell? w _ hx254_1)).trans hx254_1
                    replace hx254_2 := (HB.out.cell (World.block_lt_of_cell? w _ hx254_2)).trans hx254_2
                    replace hx254_3 := (HB.out.cell (World.block_lt_of_cell? w _ hx254_3)).trans hx254_3
                    replace p254 := eq_true p254
                    replace q254 := eq_true q254
                    go_wp2_with (first | ((with_reducible refine gate_dst (N := 8) rfl ?_); (try (refine gate_guard (by rfl) ?_; dsimp only)); refine boxE (N := 8) (cs := #[.int .i64 0, .string (⟨#[]⟩ : ByteArray), .string (⟨#[]⟩ : ByteArray), .string (⟨#[]⟩ : ByteArray)]) (t := 65) (h := ?_); intro gb255 hg w31 hbox hb; replace HO_254000 := Aside0.mk (Kd.R_below t74_ hb); have BK255 := Aside0.mk (hbox); have GW255 := Aside0.mk ((t50_ : w.heap.size ≤ gb255)); have GE255 := Aside0.mk ((t50_ : w.heap.size ≤ gb255)); replace HB := Aside0.mk (below_step t31_ hb); have NB247_255 := nbL BK247 hg; have NB255_247 := nbG BK247 hg; replace BK247 := bkN BK247 hb; have NB248_255 := nbL BK248 hg; have NB255_248 := nbG BK248 hg; replace BK248 := bkN BK248 hb; have NB253_255 := nbL BK253 hg; have NB255_253 := nbG BK253 hg; replace BK253 := bkN BK253 hb; clear hb hbox hg; have hnb32 := NB255_247.out; have hnc32 := NB247_255.out; have hnb33 := NB255_248.out; have hnc33 := NB248_255.out; have hnb34 := NB255_253.out; have hnc34 := NB253_255.out; have hcz35_0 := bc0 BK255; have hcz35_1 := bc1 BK255; have hcz35_2 := bc2 BK255; have hcz35_3 := bc3 BK255; have hfz35_0 := bf BK255 0; have hfz35_1 := bf BK255 1; have hfz35_2 := bf BK255 2; have hfz35_3 := bf BK255 3; have hnb36 := NB253_247.out; have hnc36 := NB247_253.out; have hnb37 := NB253_248.out; have hnc37 := NB248_253.out; have hcz38_0 := bc0 BK253; have hfz38_0 := bf BK253 0; obtain ⟨Ao39, co39, eo39⟩ := Kd.R_slice HO_254000.out; subst eo39) | ((with_reducible refine gate_callee (f := 38) rfl ?_); refine goesL_ (some 32) rfl rfl Try.func38 (by kernel_rfl) rfl #[.agg #[.slice Ao39 x254000_2.length co39], .agg #[.int .i64 ((rd_T65 l1 x24_2).f0), .string ((rd_T65 l1 x24_2).f1), .string ((rd_T65 l1 x24_2).f2), .string ((rd_T65 l1 x24_2).f3)]] rfl t1_ ?_; (with_reducible refine (impl_PutRaw.calls k2 _ _ x254000_2 ((rd_T65 l1 x24_2).f0) ((rd_T65 l1 x24_2).f1) ((rd_T65 l1 x24_2).f2) ((rd_T65 l1 x24_2).f3) t256 true _ ?side1 ?side2 A29.out).mono ?_); (case side1 => refine (Kd.R_reads' (e := 71) (base := w.heap.size) (ok := fun k_ => True) (n := x254000_2.length) (c := co39) ?_).2.2; exact (by (with_reducible repeat (first | apply Kd.R_alloc | apply Kd.R_drewN | apply Kd.R_drew)); exact (Kd.R_mono (Kd.R_far (p := ⟨gb255, 3, none⟩) (Kd.R_far (p := ⟨gb255, 2, none⟩) (Kd.R_far (p := ⟨gb255, 1, none⟩) (Kd.R_far (p := ⟨gb255, 0, none⟩) (Kd.R_types HO_254000.out BK255.out (by decide)) (fun _ hk => hk.2) (.int .i64 ((rd_T65 l1 x24_2).f0))) (fun _ hk => hk.2) (.string ((rd_T65 l1 x24_2).f1))) (fun _ hk => hk.2) (.string ((rd_T65 l1 x24_2).f2))) (fun _ hk => hk.2) (.string ((rd_T65 l1 x24_2).f3))) (fun _ h_ => h_.1)))); (case side2 => exact (Kd.R_reads' HO_254000.out).2.1); rintro e w40 ⟨v257, rfl, ho0, hb⟩; refine ⟨_, rfl, ?_⟩; have HO258 := Aside0.mk (Kd.R_lower (Kd.R_new' ho0 (Kd.R_lt (by (with_reducible repeat (first | apply Kd.R_alloc | apply Kd.R_drewN | apply Kd.R_drew)); exact (Kd.R_mono (Kd.R_far (p := ⟨gb255, 3, none⟩) (Kd.R_far (p := ⟨gb255, 2, none⟩) (Kd.R_far (p := ⟨gb255, 1, none⟩) (Kd.R_far (p := ⟨gb255, 0, none⟩) (Kd.R_types HO_254000.out BK255.out (by decide)) (fun _ hk => hk.2) (.int .i64 ((rd_T65 l1 x24_2).f0))) (fun _ hk => hk.2) (.string ((rd_T65 l1 x24_2).f1))) (fun _ hk => hk.2) (.string ((rd_T65 l1 x24_2).f2))) (fun _ hk => hk.2) (.string ((rd_T65 l1 x24_2).f3))) (fun _ h_ => h_.1))))) (below_size t22_)); replace HO_254000 := Aside0.mk (Kd.R_elder' (by (with_reducible repeat (first | apply Kd.R_alloc | apply Kd.R_drewN | apply Kd.R_drew)); exact (Kd.R_mono (Kd.R_far (p := ⟨gb255, 3, none⟩) (Kd.R_far (p := ⟨gb255, 2, none⟩) (Kd.R_far (p := ⟨gb255, 1, none⟩) (Kd.R_far (p := ⟨gb255, 0, none⟩) (Kd.R_types HO_254000.out BK255.out (by decide)) (fun _ hk => hk.2) (.int .i64 ((rd_T65 l1 x24_2).f0))) (fun _ hk => hk.2) (.string ((rd_T65 l1 x24_2).f1))) (fun _ hk => hk.2) (.string ((rd_T65 l1 x24_2).f2))) (fun _ hk => hk.2) (.string ((rd_T65 l1 x24_2).f3))) (fun _ h_ => h_.1))) (Kd.R_base ho0) hb); replace BK247 := Aside0.mk (blk_below (g := gb247) (o := .cells #[.slice A0_0 l0_0.length c0_0] 30 (0, 0)) (by (with_reducible repeat (first | refine blk_drewN ?_ _ | refine blk_drew ?_ | refine blk_alloc ?_ _)); refine blk_far ?_ NB247_255.out _; (with_reducible repeat (first | refine blk_drewN ?_ _ | refine blk_drew ?_ | refine blk_alloc ?_ _)); refine blk_far ?_ NB247_255.out _; (with_reducible repeat (first | refine blk_drewN ?_ _ | refine blk_drew ?_ | refine blk_alloc ?_ _)); refine blk_far ?_ NB247_255.out _; (with_reducible repeat (first | refine blk_drewN ?_ _ | refine blk_drew ?_ | refine blk_alloc ?_ _)); refine blk_far ?_ NB247_255.out _; (with_reducible repeat (first | refine blk_drewN ?_ _ | refine blk_drew ?_ | refine blk_alloc ?_ _)); exact BK247.out) hb); replace BK248 := Aside0.mk (blk_below (g := gb248) (o := .cells #[.slice none 0 0] 30 (0, 0)) (by (with_reducible repeat (first | refine blk_drewN ?_ _ | refine blk_drew ?_ | refine blk_alloc ?_ _)); refine blk_far ?_ NB248_255.out _; (with_reducible repeat (first | refine blk_drewN ?_ _ | refine blk_drew ?_ | refine blk_alloc ?_ _)); refine blk_far ?_ NB248_255.out _; (with_reducible repeat (first | refine blk_drewN ?_ _ | refine blk_drew ?_ | refine blk_alloc ?_ _)); refine blk_far ?_ NB248_255.out _; (with_reducible repeat (first | refine blk_drewN ?_ _ | refine blk_drew ?_ | refine blk_alloc ?_ _)); refine blk_far ?_ NB248_255.out _; (with_reducible repeat (first | refine blk_drewN ?_ _ | refine blk_drew ?_ | refine blk_alloc ?_ _)); exact BK248.out) hb); replace BK253 := Aside0.mk (blk_below (g := gb253) (o := .cells #[.slice Ao39 x254000_2.length co39] 30 (0, 0)) (by (with_reducible repeat (first | refine blk_drewN ?_ _ | refine blk_drew ?_ | refine blk_alloc ?_ _)); refine blk_far ?_ NB253_255.out _; (with_reducible repeat (first | refine blk_drewN ?_ _ | refine blk_drew ?_ | refine blk_alloc ?_ _)); refine blk_far ?_ NB253_255.out _; (with_reducible repeat (first | refine blk_drewN ?_ _ | refine blk_drew ?_ | refine blk_alloc ?_ _)); refine blk_far ?_ NB253_255.out _; (with_reducible repeat (first | refine blk_drewN ?_ _ | refine blk_drew ?_ | refine blk_alloc ?_ _)); refine blk_far ?_ NB253_255.out _; (with_reducible repeat (first | refine blk_drewN ?_ _ | refine blk_drew ?_ | refine blk_alloc ?_ _)); exact BK253.out) hb); replace BK255 := Aside0.mk (blk_below (g := gb255) (o := .cells #[.int .i64 ((rd_T65 l1 x24_2).f0), .string ((rd_T65 l1 x24_2).f1), .string ((rd_T65 l1 x24_2).f2), .string ((rd_T65 l1 x24_2).f3)] 65 (0, 0)) (by (with_reducible repeat (first | refine blk_drewN ?_ _ | refine blk_drew ?_ | refine blk_alloc ?_ _)); refine blk_put (cs := #[.int .i64 ((rd_T65 l1 x24_2).f0), .string ((rd_T65 l1 x24_2).f1), .string ((rd_T65 l1 x24_2).f2), .string (⟨#[]⟩ : ByteArray)]) ?_ 3 _ rfl; (with_reducible repeat (first | refine blk_drewN ?_ _ | refine blk_drew ?_ | refine blk_alloc ?_ _)); refine blk_put (cs := #[.int .i64 ((rd_T65 l1 x24_2).f0), .string ((rd_T65 l1 x24_2).f1), .string (⟨#[]⟩ : ByteArray), .string (⟨#[]⟩ : ByteArray)]) ?_ 2 _ rfl; (with_reducible repeat (first | refine blk_drewN ?_ _ | refine blk_drew ?_ | refine blk_alloc ?_ _)); refine blk_put (cs := #[.int .i64 ((rd_T65 l1 x24_2).f0), .string (⟨#[]⟩ : ByteArray), .string (⟨#[]⟩ : ByteArray), .string (⟨#[]⟩ : ByteArray)]) ?_ 1 _ rfl; (with_reducible repeat (first | refine blk_drewN ?_ _ | refine blk_drew ?_ | refine blk_alloc ?_ _)); refine blk_put (cs := #[.int .i64 0, .string (⟨#[]⟩ : ByteArray), .string (⟨#[]⟩ : ByteArray), .string (⟨#[]⟩ : ByteArray)]) ?_ 0 _ rfl; (with_reducible repeat (first | refine blk_drewN ?_ _ | refine blk_drew ?_ | refine blk_alloc ?_ _)); exact BK255.out) hb); replace HB := Aside0.mk (below_step t22_ hb); (try clear hb); (try clear hb2); (try clear hk); (try clear hi); (try clear ho0)) | ((with_reducible refine gate_dst (N := 9) rfl ?_); (try (refine gate_guard (by rfl) ?_; dsimp only)); refine boxE (N := 9) (cs := #[.slice none 0 0]) (t := 30) (h := ?_); intro gb260 hg w41 hbox hb; replace HO_254000 := Aside0.mk (Kd.R_below t74_ hb); replace HO258 := Aside0.mk (Kd.R_below (by (with_reducible repeat (first | apply Kd.R_alloc | apply Kd.R_drewN | apply Kd.R_drew)); exact HO258.out) hb); have BK260 := Aside0.mk (hbox); have GW260 := Aside0.mk ((t48_ : w.heap.size ≤ gb260)); have GE260 := Aside0.mk ((t48_ : w.heap.size ≤ gb260)); replace HB := Aside0.mk (below_step t22_ hb); have NB247_260 := nbL BK247 hg; have NB260_247 := nbG BK247 hg; replace BK247 := bkN BK247 hb; have NB248_260 := nbL BK248 hg; have NB260_248 := nbG BK248 hg; replace BK248 := bkN BK248 hb; have NB253_260 := nbL BK253 hg; have NB260_253 := nbG BK253 hg; replace BK253 := bkN BK253 hb; have NB255_260 := nbL BK255 hg; have NB260_255 := nbG BK255 hg; replace BK255 := bkN BK255 hb; clear hb hbox hg; obtain ⟨Ao42, co42, eo42⟩ := Kd.R_slice HO258.out; subst eo42; have hnb43 := NB260_247.out; have hnc43 := NB247_260.out; have hnb44 := NB260_248.out; have hnc44 := NB248_260.out; have hnb45 := NB260_253.out; have hnc45 := NB253_260.out; have hnb46 := NB260_255.out; have hnc46 := NB255_260.out; have hcz47_0 := bc0 BK260; have hfz47_0 := bf BK260 0; have hcz48_0 := bc0 BK253; have hfz48_0 := bf BK253 0))
                    go_roundg k2
                    case measure => have := HJ2.out; have := HK2.out; omega
                    case rel => exact ⟨(wrap64 (x24_2 + 1)), (t256), (.slice Ao42 t256.length co42), t19_, H', ⟨by have := HJ2.out; have := HK2.out; omega⟩, ⟨by (with_reducible repeat (first | apply Kd.R_alloc | apply Kd.R_drewN | apply Kd.R_drew)); exact Kd.R_mono (Kd.R_far (p := ⟨gb253, 0, none⟩) (Kd.R_far (p := ⟨gb260, 0, none⟩) (Kd.R_types (Kd.R_types HO258.out BK260.out (by decide)) BK253.out (by decide)) (fun _ hk => hk.1.2) (.slice Ao42 t256.length co42)) (fun _ hk => hk.2) (.slice Ao42 t256.length co42)) (fun _ hk => trivial)⟩, ⟨by (with_reducible repeat (first | refine blk_drewN ?_ _ | refine blk_drew ?_ | refine blk_alloc ?_ _)); refine blk_far ?_ NB247_253.out _; (with_reducible repeat (first | refine blk_drewN ?_ _ | refine blk_drew ?_ | refine blk_alloc ?_ _)); refine blk_far ?_ NB247_260.out _; (with_reducible repeat (first | refine blk_drewN ?_ _ | refine blk_drew ?_ | refine blk_alloc ?_ _)); exact BK247.out⟩, ⟨by (with_reducible repeat (first | refine blk_drewN ?_ _ | refine blk_drew ?_ | refine blk_alloc ?_ _)); refine blk_far ?_ NB248_253.out _; (with_reducible repeat (first | refine blk_drewN ?_ _ | refine blk_drew ?_ | refine blk_alloc ?_ _)); refine blk_far ?_ NB248_260.out _; (with_reducible repeat (first | refine blk_drewN ?_ _ | refine blk_drew ?_ | refine blk_alloc ?_ _)); exact BK248.out⟩, ⟨by (with_reducible repeat (first | refine blk_drewN ?_ _ | refine blk_drew ?_ | refine blk_alloc ?_ _)); refine blk_put (cs := #[.slice Ao39 x254000_2.length co39]) ?_ 0 _ rfl; (with_reducible repeat (first | refine blk_drewN ?_ _ | refine blk_drew ?_ | refine blk_alloc ?_ _)); refine blk_far ?_ NB253_260.out _; (with_reducible repeat (first | refine blk_drewN ?_ _ | refine blk_drew ?_ | refine blk_alloc ?_ _)); exact BK253.out⟩, ⟨by repeat (first | (with_reducible first | exact HB.out | apply below_alloc | apply pw_below_drewN | apply below_drew1 | refine below_set ?_ GE247.out | refine below_set ?_ GE248.out | refine below_set ?_ GE253.out | refine below_set ?_ GE255.out | refine below_set ?_ GE260.out) | exact HB.out)⟩⟩
                  · replace c30 := Bool.eq_false_iff.mpr c30
                    subst c30
                    have H1 : (some (x254000_2, x24_2)) = some (r1, r2) := by rw [if_neg (show ¬ (false = true) by decide)] at H; exact H
                    clear H
                    have H := H1
                    clear H1
                    simp only [Option.some.injEq, Prod.mk.injEq] at H
                    obtain ⟨rfl, rfl⟩ := H
                    have p254 : 0 ≤ (x24_2 : Int) := of_decide_eq_true t7_
                    have q254 : x24_2 < (l1.length : Int) := of_decide_eq_true t7_
                    obtain ⟨ad254, e254, hx254_0, hx254_1, hx254_2, hx254_3⟩ := at_T65 HR1.out x24_2 p254 q254
                    cases e254
                    replace hx254_0 := (HB.out.cell (World.block_lt_of_cell? w _ hx254_0)).trans hx254_0
                    replace hx254_1 := (HB.out.cell (World.block_lt_of_cell? w _ hx254_1)).trans hx254_1
                    replace hx254_2 := (HB.out.cell (World.block_lt_of_cell? w _ hx254_2)).trans hx254_2
                    replace hx254_3 := (HB.out.cell (World.block_lt_of_cell? w _ hx254_3)).trans hx254_3
                    replace p254 := eq_true p254
                    replace q254 := eq_true q254
                    go_wp2_with (first | ((with_reducible refine gate_dst (N := 8) rfl ?_); (try (refine gate_guard (by rfl) ?_; dsimp only)); refine boxE (N := 8) (cs := #[.int .i64 0, .string (⟨#[]⟩ : ByteArray), .string (⟨#[]⟩ : ByteArray), .string (⟨#[]⟩ : ByteArray)]) (t := 65) (h := ?_); intro gb255 hg w49 hbox hb; replace HO_254000 := Aside0.mk (Kd.R_below t74_ hb); have BK255 := Aside0.mk (hbox); have GW255 := Aside0.mk ((t50_ : w.heap.size ≤ gb255)); have GE255 := Aside0.mk ((t50_ : w.heap.size ≤ gb255)); replace HB := Aside0.mk (below_step t31_ hb); have NB247_255 := nbL BK247 hg; have NB255_247 := nbG BK247 hg; replace BK247 := bkN BK247 hb; have NB248_255 := nbL BK248 hg; have NB255_248 := nbG BK248 hg; replace BK248 := bkN BK248 hb; have NB253_255 := nbL BK253 hg; have NB255_253 := nbG BK253 hg; replace BK253 := bkN BK253 hb; clear hb hbox hg; have hnb50 := NB255_247.out; have hnc50 := NB247_255.out; have hnb51 := NB255_248.out; have hnc51 := NB248_255.out; have hnb52 := NB255_253.out; have hnc52 := NB253_255.out; have hcz53_0 := bc0 BK255; have hcz53_1 := bc1 BK255; have hcz53_2 := bc2 BK255; have hcz53_3 := bc3 BK255; have hfz53_0 := bf BK255 0; have hfz53_1 := bf BK255 1; have hfz53_2 := bf BK255 2; have hfz53_3 := bf BK255 3; have hnb54 := NB253_247.out; have hnc54 := NB247_253.out; have hnb55 := NB253_248.out; have hnc55 := NB248_253.out; have hcz56_0 := bc0 BK253; have hfz56_0 := bf BK253 0; obtain ⟨Ao57, co57, eo57⟩ := Kd.R_slice HO_254000.out; subst eo57) | ((with_reducible refine gate_callee (f := 38) rfl ?_); refine goesL_ (some 32) rfl rfl Try.func38 (by kernel_rfl) rfl #[.agg #[.slice Ao57 x254000_2.length co57], .agg #[.int .i64 ((rd_T65 l1 x24_2).f0), .string ((rd_T65 l1 x24_2).f1), .string ((rd_T65 l1 x24_2).f2), .string ((rd_T65 l1 x24_2).f3)]] rfl t1_ ?_; (with_reducible refine (impl_PutRaw.calls k2 _ _ x254000_2 ((rd_T65 l1 x24_2).f0) ((rd_T65 l1 x24_2).f1) ((rd_T65 l1 x24_2).f2) ((rd_T65 l1 x24_2).f3) t256 false _ ?side1 ?side2 A29.out).mono ?_); (case side1 => refine (Kd.R_reads' (e := 71) (base := w.heap.size) (ok := fun k_ => True) (n := x254000_2.length) (c := co57) ?_).2.2; exact (by (with_reducible repeat (first | apply Kd.R_alloc | apply Kd.R_drewN | apply Kd.R_drew)); exact (Kd.R_mono (Kd.R_far (p := ⟨gb255, 3, none⟩) (Kd.R_far (p := ⟨gb255, 2, none⟩) (Kd.R_far (p := ⟨gb255, 1, none⟩) (Kd.R_far (p := ⟨gb255, 0, none⟩) (Kd.R_types HO_254000.out BK255.out (by decide)) (fun _ hk => hk.2) (.int .i64 ((rd_T65 l1 x24_2).f0))) (fun _ hk => hk.2) (.string ((rd_T65 l1 x24_2).f1))) (fun _ hk => hk.2) (.string ((rd_T65 l1 x24_2).f2))) (fun _ hk => hk.2) (.string ((rd_T65 l1 x24_2).f3))) (fun _ h_ => h_.1)))); (case side2 => exact (Kd.R_reads' HO_254000.out).2.1); rintro e w58 ⟨v257, rfl, ho0, hb⟩; refine ⟨_, rfl, ?_⟩; have HO258 := Aside0.mk (Kd.R_lower (Kd.R_new' ho0 (Kd.R_lt (by (with_reducible repeat (first | apply Kd.R_alloc | apply Kd.R_drewN | apply Kd.R_drew)); exact (Kd.R_mono (Kd.R_far (p := ⟨gb255, 3, none⟩) (Kd.R_far (p := ⟨gb255, 2, none⟩) (Kd.R_far (p := ⟨gb255, 1, none⟩) (Kd.R_far (p := ⟨gb255, 0, none⟩) (Kd.R_types HO_254000.out BK255.out (by decide)) (fun _ hk => hk.2) (.int .i64 ((rd_T65 l1 x24_2).f0))) (fun _ hk => hk.2) (.string ((rd_T65 l1 x24_2).f1))) (fun _ hk => hk.2) (.string ((rd_T65 l1 x24_2).f2))) (fun _ hk => hk.2) (.string ((rd_T65 l1 x24_2).f3))) (fun _ h_ => h_.1))))) (below_size t22_)); replace HO_254000 := Aside0.mk (Kd.R_elder' (by (with_reducible repeat (first | apply Kd.R_alloc | apply Kd.R_drewN | apply Kd.R_drew)); exact (Kd.R_mono (Kd.R_far (p := ⟨gb255, 3, none⟩) (Kd.R_far (p := ⟨gb255, 2, none⟩) (Kd.R_far (p := ⟨gb255, 1, none⟩) (Kd.R_far (p := ⟨gb255, 0, none⟩) (Kd.R_types HO_254000.out BK255.out (by decide)) (fun _ hk => hk.2) (.int .i64 ((rd_T65 l1 x24_2).f0))) (fun _ hk => hk.2) (.string ((rd_T65 l1 x24_2).f1))) (fun _ hk => hk.2) (.string ((rd_T65 l1 x24_2).f2))) (fun _ hk => hk.2) (.string ((rd_T65 l1 x24_2).f3))) (fun _ h_ => h_.1))) (Kd.R_base ho0) hb); replace BK247 := Aside0.mk (blk_below (g := gb247) (o := .cells #[.slice A0_0 l0_0.length c0_0] 30 (0, 0)) (by (with_reducible repeat (first | refine blk_drewN ?_ _ | refine blk_drew ?_ | refine blk_alloc ?_ _)); refine blk_far ?_ NB247_255.out _; (with_reducible repeat (first | refine blk_drewN ?_ _ | refine blk_drew ?_ | refine blk_alloc ?_ _)); refine blk_far ?_ NB247_255.out _; (with_reducible repeat (first | refine blk_drewN ?_ _ | refine blk_drew ?_ | refine blk_alloc ?_ _)); refine blk_far ?_ NB247_255.out _; (with_reducible repeat (first | refine blk_drewN ?_ _ | refine blk_drew ?_ | refine blk_alloc ?_ _)); refine blk_far ?_ NB247_255.out _; (with_reducible repeat (first | refine blk_drewN ?_ _ | refine blk_drew ?_ | refine blk_alloc ?_ _)); exact BK247.out) hb); replace BK248 := Aside0.mk (blk_below (g := gb248) (o := .cells #[.slice none 0 0] 30 (0, 0)) (by (with_reducible repeat (first | refine blk_drewN ?_ _ | refine blk_drew ?_ | refine blk_alloc ?_ _)); refine blk_far ?_ NB248_255.out _; (with_reducible repeat (first | refine blk_drewN ?_ _ | refine blk_drew ?_ | refine blk_alloc ?_ _)); refine blk_far ?_ NB248_255.out _; (with_reducible repeat (first | refine blk_drewN ?_ _ | refine blk_drew ?_ | refine blk_alloc ?_ _)); refine blk_far ?_ NB248_255.out _; (with_reducible repeat (first | refine blk_drewN ?_ _ | refine blk_drew ?_ | refine blk_alloc ?_ _)); refine blk_far ?_ NB248_255.out _; (with_reducible repeat (first | refine blk_drewN ?_ _ | refine blk_drew ?_ | refine blk_alloc ?_ _)); exact BK248.out) hb); replace BK253 := Aside0.mk (blk_below (g := gb253) (o := .cells #[.slice Ao57 x254000_2.length co57] 30 (0, 0)) (by (with_reducible repeat (first | refine blk_drewN ?_ _ | refine blk_drew ?_ | refine blk_alloc ?_ _)); refine blk_far ?_ NB253_255.out _; (with_reducible repeat (first | refine blk_drewN ?_ _ | refine blk_drew ?_ | refine blk_alloc ?_ _)); refine blk_far ?_ NB253_255.out _; (with_reducible repeat (first | refine blk_drewN ?_ _ | refine blk_drew ?_ | refine blk_alloc ?_ _)); refine blk_far ?_ NB253_255.out _; (with_reducible repeat (first | refine blk_drewN ?_ _ | refine blk_drew ?_ | refine blk_alloc ?_ _)); refine blk_far ?_ NB253_255.out _; (with_reducible repeat (first | refine blk_drewN ?_ _ | refine blk_drew ?_ | refine blk_alloc ?_ _)); exact BK253.out) hb); replace BK255 := Aside0.mk (blk_below (g := gb255) (o := .cells #[.int .i64 ((rd_T65 l1 x24_2).f0), .string ((rd_T65 l1 x24_2).f1), .string ((rd_T65 l1 x24_2).f2), .string ((rd_T65 l1 x24_2).f3)] 65 (0, 0)) (by (with_reducible repeat (first | refine blk_drewN ?_ _ | refine blk_drew ?_ | refine blk_alloc ?_ _)); refine blk_put (cs := #[.int .i64 ((rd_T65 l1 x24_2).f0), .string ((rd_T65 l1 x24_2).f1), .string ((rd_T65 l1 x24_2).f2), .string (⟨#[]⟩ : ByteArray)]) ?_ 3 _ rfl; (with_reducible repeat (first | refine blk_drewN ?_ _ | refine blk_drew ?_ | refine blk_alloc ?_ _)); refine blk_put (cs := #[.int .i64 ((rd_T65 l1 x24_2).f0), .string ((rd_T65 l1 x24_2).f1), .string (⟨#[]⟩ : ByteArray), .string (⟨#[]⟩ : ByteArray)]) ?_ 2 _ rfl; (with_reducible repeat (first | refine blk_drewN ?_ _ | refine blk_drew ?_ | refine blk_alloc ?_ _)); refine blk_put (cs := #[.int .i64 ((rd_T65 l1 x24_2).f0), .string (⟨#[]⟩ : ByteArray), .string (⟨#[]⟩ : ByteArray), .string (⟨#[]⟩ : ByteArray)]) ?_ 1 _ rfl; (with_reducible repeat (first | refine blk_drewN ?_ _ | refine blk_drew ?_ | refine blk_alloc ?_ _)); refine blk_put (cs := #[.int .i64 0, .string (⟨#[]⟩ : ByteArray), .string (⟨#[]⟩ : ByteArray), .string (⟨#[]⟩ : ByteArray)]) ?_ 0 _ rfl; (with_reducible repeat (first | refine blk_drewN ?_ _ | refine blk_drew ?_ | refine blk_alloc ?_ _)); exact BK255.out) hb); replace HB := Aside0.mk (below_step t22_ hb); (try clear hb); (try clear hb2); (try clear hk); (try clear hi); (try clear ho0)) | ((with_reducible refine gate_dst (N := 9) rfl ?_); (try (refine gate_guard (by rfl) ?_; dsimp only)); refine boxE (N := 9) (cs := #[.slice none 0 0]) (t := 30) (h := ?_); intro gb260 hg w59 hbox hb; replace HO_254000 := Aside0.mk (Kd.R_below t74_ hb); replace HO258 := Aside0.mk (Kd.R_below (by (with_reducible repeat (first | apply Kd.R_alloc | apply Kd.R_drewN | apply Kd.R_drew)); exact HO258.out) hb); have BK260 := Aside0.mk (hbox); have GW260 := Aside0.mk ((t48_ : w.heap.size ≤ gb260)); have GE260 := Aside0.mk ((t48_ : w.heap.size ≤ gb260)); replace HB := Aside0.mk (below_step t22_ hb); have NB247_260 := nbL BK247 hg; have NB260_247 := nbG BK247 hg; replace BK247 := bkN BK247 hb; have NB248_260 := nbL BK248 hg; have NB260_248 := nbG BK248 hg; replace BK248 := bkN BK248 hb; have NB253_260 := nbL BK253 hg; have NB260_253 := nbG BK253 hg; replace BK253 := bkN BK253 hb; have NB255_260 := nbL BK255 hg; have NB260_255 := nbG BK255 hg; replace BK255 := bkN BK255 hb; clear hb hbox hg; obtain ⟨Ao60, co60, eo60⟩ := Kd.R_slice HO258.out; subst eo60; have hnb61 := NB260_247.out; have hnc61 := NB247_260.out; have hnb62 := NB260_248.out; have hnc62 := NB248_260.out; have hnb63 := NB260_253.out; have hnc63 := NB253_260.out; have hnb64 := NB260_255.out; have hnc64 := NB255_260.out; have hcz65_0 := bc0 BK260; have hfz65_0 := bf BK260 0; have hcz66_0 := bc0 BK253; have hfz66_0 := bf BK253 0; have hnb67 := NB248_247.out; have hnc67 := NB247_248.out; have hcz68_0 := bc0 BK248; have hfz68_0 := bf BK248 0))
                    refine bodyPost_ret (results_ct rfl _ _ gb248 30 #[.slice Ao57 x254000_2.length co57] (0, 0) _ rfl (by (with_reducible repeat (first | refine blk_drewN ?_ _ | refine blk_drew ?_ | refine blk_alloc ?_ _)); refine blk_put (cs := #[.slice none 0 0]) ?_ 0 _ rfl; (with_reducible repeat (first | refine blk_drewN ?_ _ | refine blk_drew ?_ | refine blk_alloc ?_ _)); refine blk_far ?_ NB248_260.out _; (with_reducible repeat (first | refine blk_drewN ?_ _ | refine blk_drew ?_ | refine blk_alloc ?_ _)); exact BK248.out) Try.underlying30 rfl (by kernel_rfl)) rfl ?_
                    exact ⟨_, by first | rfl | (simp [errW_none, errW_some] <;> rfl) | (simp [*, errW_none, errW_some] <;> rfl), by (with_reducible repeat (first | apply Kd.R_alloc | apply Kd.R_drewN | apply Kd.R_drew)); exact Kd.R_mono (Kd.R_far (p := ⟨gb248, 0, none⟩) (Kd.R_far (p := ⟨gb260, 0, none⟩) (Kd.R_types (Kd.R_types HO_254000.out BK260.out (by decide)) BK248.out (by decide)) (fun _ hk => hk.1.2) (.slice Ao60 t256.length co60)) (fun _ hk => hk.2) (.slice Ao57 x254000_2.length co57)) (fun _ hk => trivial), by repeat (first | (with_reducible first | exact HB.out | apply below_alloc | apply pw_below_drewN | apply below_drew1 | refine below_set ?_ GE247.out | refine below_set ?_ GE248.out | refine below_set ?_ GE253.out | refine below_set ?_ GE255.out | refine below_set ?_ GE260.out) | exact HB.out)⟩
                · rw [if_neg c28] at H
                  exact absurd H (by simp)
              · rw [if_neg c27] at H
                exact absurd H (by simp)
            · rw [if_neg c26] at H
              have c26b0 : decide (x24_2 < (l1.length : Int)) = false := decide_eq_false c26
              clear c26
              simp only [Option.some.injEq, Prod.mk.injEq] at H
              obtain ⟨rfl, rfl⟩ := H
              have hnb69 := NB253_247.out
              have hnc69 := NB247_253.out
              have hnb70 := NB253_248.out
              have hnc70 := NB248_253.out
              have hcz71_0 := bc0 BK253
              have hfz71_0 := bf BK253 0
              obtain ⟨Ao72, co72, eo72⟩ := Kd.R_slice HO_254000.out
              subst eo72
              have hnb73 := NB248_247.out
              have hnc73 := NB247_248.out
              have hcz74_0 := bc0 BK248
              have hfz74_0 := bf BK248 0
              go_wp2
              refine bodyPost_ret (results_ct rfl _ _ gb248 30 #[.slice Ao72 x254000_2.length co72] (0, 0) _ rfl (by (with_reducible repeat (first | refine blk_drewN ?_ _ | refine blk_drew ?_ | refine blk_alloc ?_ _)); refine blk_put (cs := #[.slice none 0 0]) ?_ 0 _ rfl; (with_reducible repeat (first | refine blk_drewN ?_ _ | refine blk_drew ?_ | refine blk_alloc ?_ _)); exact BK248.out) Try.underlying30 rfl (by kernel_rfl)) rfl ?_
              exact ⟨_, by first | rfl | (simp [errW_none, errW_some] <;> rfl) | (simp [*, errW_none, errW_some] <;> rfl), by (with_reducible repeat (first | apply Kd.R_alloc | apply Kd.R_drewN | apply Kd.R_drew)); exact Kd.R_mono (Kd.R_far (p := ⟨gb248, 0, none⟩) (Kd.R_types HO_254000.out BK248.out (by decide)) (fun _ hk => hk.2) (.slice Ao72 x254000_2.length co72)) (fun _ hk => trivial), t31_⟩

/-! ### spec_l01In: function 57 -/
def spec_l01In.f (a0 : Int) (a1 : Int) (a2 : Int) : Option (Bool) := if a0 ≥ a1 then (some (decide (a0 ≤ a2))) else (some false)
set_option maxHeartbeats 8000000 in
set_option maxRecDepth 100000 in
theorem spec_l01In.calls (a0 : Int) (a1 : Int) (a2 : Int) (r : Bool) (w : World) (h : spec_l01In.f a0 a1 a2 = some r) :
    Calls Try.prog 57 #[.int .i64 a0, .int .i64 a1, .int .i64 a2] w fun e w' => e = .returned (.bool r) ∧ Drawn0 w w' := by
  have H : (if a0 ≥ a1 then (some (decide (a0 ≤ a2))) else (some false)) = some r := h
  clear h
  by_cases c4 : a0 ≥ a1
  · rw [if_pos c4] at H
    have c4b0 : decide (a1 ≤ a0) = true := decide_eq_true c4
    clear c4
    obtain rfl := Option.some.inj H
    go_enter Try.func57, Try.ntmps57
    go_wp2
    go_ret
    exact ⟨by first | rfl | (simp; done) | (simp [*]; done), t81_⟩
  · rw [if_neg c4] at H
    have c4b0 : decide (a1 ≤ a0) = false := decide_eq_false c4
    clear c4
    obtain rfl := Option.some.inj H
    go_enter Try.func57, Try.ntmps57
    go_wp2
    go_ret
    exact ⟨by first | rfl | (simp; done) | (simp [*]; done), t81_⟩

/-! ### spec_DiskOk: function 56 -/
def spec_DiskOk.l0 : Nat → Int → List (S71) → Option (Bool)
  | 0, _, _ => none
  | k + 1, x3, x262000 => if x3 < (x262000.length : Int) then (if 0 ≤ x3 then ((spec_l01In.f (((rd_T71 x262000 x3).f0).size : Int) 1 12).bind fun t263 => (if t263 = true then (if (((rd_T71 x262000 x3).f1).size : Int) > 20000 then (some false) else (if x3 > 0 then (if 0 ≤ (wrap64 (x3 - 1)) then (if (wrap64 (x3 - 1)) < (x262000.length : Int) then (if ((Op.bytesLess (((rd_T71 x262000 (wrap64 (x3 - 1))).f0).toList) (((rd_T71 x262000 x3).f0).toList)) = true) then (spec_DiskOk.l0 k (wrap64 (x3 + 1)) x262000) else (some false)) else (none)) else (none)) else (spec_DiskOk.l0 k (wrap64 (x3 + 1)) x262000))) else (some false))) else (none)) else (some true)
def spec_DiskOk.f (k : Nat) (l0_0 : List (S71)) : Option (Bool) := if (l0_0.length : Int) > 30 then (some false) else (spec_DiskOk.l0 k 0 l0_0)
theorem spec_DiskOk.mono_l : ∀ k, (∀ y0 y1, LeO (spec_DiskOk.l0 k y0 y1) (spec_DiskOk.l0 (k + 1) y0 y1))
  | 0 => fun _ _ r h => by simp [spec_DiskOk.l0] at h
  | k + 1 => by
    have ih0 := spec_DiskOk.mono_l k
    · intro y0 y1
      unfold spec_DiskOk.l0
      repeat' first
      | (with_reducible exact ih0 _ _)
      | (with_reducible exact LeO.refl _)
      | (with_reducible exact LeO.none _)
      | (with_reducible refine LeO.ite ?_ ?_)
      | (with_reducible refine LeO.bind ?_ (fun _ => ?_))
      | exact ih0 _ _
      | exact LeO.none _
      | refine LeO.ite ?_ ?_
      | refine LeO.bind ?_ (fun _ => ?_)
theorem spec_DiskOk.mono : ∀ a0 k, LeO (spec_DiskOk.f k a0) (spec_DiskOk.f (k + 1) a0) := by
  intro a0 k
  have ih0 := spec_DiskOk.mono_l k
  unfold spec_DiskOk.f
  repeat' first
      | (with_reducible exact ih0 _ _)
      | (with_reducible exact LeO.refl _)
      | (with_reducible exact LeO.none _)
      | (with_reducible refine LeO.ite ?_ ?_)
      | (with_reducible refine LeO.bind ?_ (fun _ => ?_))
      | exact ih0 _ _
      | exact LeO.none _
      | refine LeO.ite ?_ ?_
      | refine LeO.bind ?_ (fun _ => ?_)
set_option maxHeartbeats 8000000 in
set_option maxRecDepth 100000 in
theorem spec_DiskOk.calls (k : Nat) (A0_0 : Option Addr) (c0_0 : Nat) (l0_0 : List (S71)) (r : Bool) (w : World) (hr0_0 : Kd.C k71 w A0_0 l0_0.length l0_0) (hc0_0 : l0_0.length ≤ c0_0) (h : spec_DiskOk.f k l0_0 = some r) :
    Calls Try.prog 56 #[.agg #[.slice A0_0 l0_0.length c0_0]] w fun e w' => e = .returned (.bool r) ∧ Below w.heap.size w w' := by
  have hu30 := Try.underlying30
  have HR0_0 := Aside0.mk hr0_0
  have HC0_0 := Aside0.mk hc0_0
  clear hr0_0 hc0_0
  have HB := Aside0.mk (Below.refl w.heap.size w)
  have H : (if (l0_0.length : Int) > 30 then (some false) else (spec_DiskOk.l0 k 0 l0_0)) = some r := h
  clear h
  by_cases c2 : (l0_0.length : Int) > 30
  · rw [if_pos c2] at H
    have c2b0 : decide (30 < (l0_0.length : Int)) = true := decide_eq_true c2
    have c2b1 : decide (30 < l0_0.length) = true := decide_eq_true (by omega)
    clear c2
    obtain rfl := Option.some.inj H
    go_enter Try.func56, Try.ntmps56
    go_wp2_with (first | ((with_reducible refine gate_dst (N := 1) rfl ?_); (try (refine gate_guard (by rfl) ?_; dsimp only)); refine boxE (N := 1) (cs := #[.slice A0_0 l0_0.length c0_0]) (t := 30) (h := ?_); intro gb261 hg w3 hbox hb; have BK261 := Aside0.mk (hbox); have GW261 := Aside0.mk ((t4_ : w.heap.size ≤ gb261)); have GE261 := Aside0.mk ((t4_ : w.heap.size ≤ gb261)); replace HB := Aside0.mk (below_step t0_ hb); clear hb hbox hg; have hcz4_0 := bc0 BK261; have hfz4_0 := bf BK261 0))
    repeat (go_quiet (first | ((with_reducible refine gate_dst (N := 1) rfl ?_); (try (refine gate_guard (by rfl) ?_; dsimp only)); refine boxE (N := 1) (cs := #[.slice A0_0 l0_0.length c0_0]) (t := 30) (h := ?_); intro gb261 hg w3 hbox hb; have BK261 := Aside0.mk (hbox); have GW261 := Aside0.mk ((t4_ : w.heap.size ≤ gb261)); have GE261 := Aside0.mk ((t4_ : w.heap.size ≤ gb261)); replace HB := Aside0.mk (below_step t0_ hb); clear hb hbox hg; have hcz4_0 := bc0 BK261; have hfz4_0 := bf BK261 0)); try go_wp2_with (first | ((with_reducible refine gate_dst (N := 1) rfl ?_); (try (refine gate_guard (by rfl) ?_; dsimp only)); refine boxE (N := 1) (cs := #[.slice A0_0 l0_0.length c0_0]) (t := 30) (h := ?_); intro gb261 hg w3 hbox hb; have BK261 := Aside0.mk (hbox); have GW261 := Aside0.mk ((t4_ : w.heap.size ≤ gb261)); have GE261 := Aside0.mk ((t4_ : w.heap.size ≤ gb261)); replace HB := Aside0.mk (below_step t0_ hb); clear hb hbox hg; have hcz4_0 := bc0 BK261; have hfz4_0 := bf BK261 0)))
    go_ret
    exact ⟨by first | rfl | (simp [errW_none, errW_some] <;> rfl) | (simp [*, errW_none, errW_some] <;> rfl), t43_⟩
  · rw [if_neg c2] at H
    have c2b0 : decide (30 < (l0_0.length : Int)) = false := decide_eq_false c2
    have c2b1 : decide (30 < l0_0.length) = false := decide_eq_false (by omega)
    clear c2
    have H' := Aside0.mk H
    clear H
    go_enter Try.func56, Try.ntmps56
    go_wp2_with (first | ((with_reducible refine gate_dst (N := 1) rfl ?_); (try (refine gate_guard (by rfl) ?_; dsimp only)); refine boxE (N := 1) (cs := #[.slice A0_0 l0_0.length c0_0]) (t := 30) (h := ?_); intro gb261 hg w5 hbox hb; have BK261 := Aside0.mk (hbox); have GW261 := Aside0.mk ((t4_ : w.heap.size ≤ gb261)); have GE261 := Aside0.mk ((t4_ : w.heap.size ≤ gb261)); replace HB := Aside0.mk (below_step t0_ hb); clear hb hbox hg; have hcz6_0 := bc0 BK261; have hfz6_0 := bf BK261 0))
    repeat (go_quiet (first | ((with_reducible refine gate_dst (N := 1) rfl ?_); (try (refine gate_guard (by rfl) ?_; dsimp only)); refine boxE (N := 1) (cs := #[.slice A0_0 l0_0.length c0_0]) (t := 30) (h := ?_); intro gb261 hg w5 hbox hb; have BK261 := Aside0.mk (hbox); have GW261 := Aside0.mk ((t4_ : w.heap.size ≤ gb261)); have GE261 := Aside0.mk ((t4_ : w.heap.size ≤ gb261)); replace HB := Aside0.mk (below_step t0_ hb); clear hb hbox hg; have hcz6_0 := bc0 BK261; have hfz6_0 := bf BK261 0)); try go_wp2_with (first | ((with_reducible refine gate_dst (N := 1) rfl ?_); (try (refine gate_guard (by rfl) ?_; dsimp only)); refine boxE (N := 1) (cs := #[.slice A0_0 l0_0.length c0_0]) (t := 30) (h := ?_); intro gb261 hg w5 hbox hb; have BK261 := Aside0.mk (hbox); have GW261 := Aside0.mk ((t4_ : w.heap.size ≤ gb261)); have GE261 := Aside0.mk ((t4_ : w.heap.size ≤ gb261)); replace HB := Aside0.mk (below_step t0_ hb); clear hb hbox hg; have hcz6_0 := bc0 BK261; have hfz6_0 := bf BK261 0)))
    go_loopg [3] k (fun kq v3 w' => ∃ (x3_1 : Int), v3 = .int .i64 x3_1 ∧ Aside0 (spec_DiskOk.l0 kq x3_1 l0_0 = some r) ∧ Aside0 (kq ≤ k) ∧ Aside0 (w'.heap[gb261]? = some (.cells #[(.slice A0_0 l0_0.length c0_0)] 30 (0, 0))) ∧ Aside0 (Below w.heap.size w w'))
    case atStart => exact ⟨(0), t19_, H', ⟨Nat.le_refl _⟩, ⟨by (with_reducible repeat (first | refine blk_drewN ?_ _ | refine blk_drew ?_ | refine blk_alloc ?_ _)); exact BK261.out⟩, ⟨t43_⟩⟩
    case round =>
      clear H'
      try clear c2
      try clear c2b0
      try clear c2b1
      try clear p2
      try clear c5
      try clear hcz4_0
      try clear hcz6_0
      try clear hfz4_0
      try clear hfz6_0
      obtain ⟨x3_1, rfl, HA, HK1, BK261, HB⟩ := hrel
      cases gk with
      | zero => exact absurd HA.out (by simp [spec_DiskOk.l0])
      | succ k1 =>
        have H := HA.out
        clear HA
        simp only [spec_DiskOk.l0] at H
        by_cases c7 : x3_1 < (l0_0.length : Int)
        · rw [if_pos c7] at H
          have c7b0 : decide (x3_1 < (l0_0.length : Int)) = true := decide_eq_true c7
          clear c7
          by_cases c8 : 0 ≤ x3_1
          · rw [if_pos c8] at H
            have c8b0 : decide (0 ≤ x3_1) = true := decide_eq_true c8
            clear c8
            replace H := Option.bind_eq_some_iff.mp H
            obtain ⟨t263, A90, H⟩ := H
            replace H : (if t263 = true then (if (((rd_T71 l0_0 x3_1).f1).size : Int) > 20000 then (some false) else (if x3_1 > 0 then (if 0 ≤ (wrap64 (x3_1 - 1)) then (if (wrap64 (x3_1 - 1)) < (l0_0.length : Int) then (if ((Op.bytesLess (((rd_T71 l0_0 (wrap64 (x3_1 - 1))).f0).toList) (((rd_T71 l0_0 x3_1).f0).toList)) = true) then (spec_DiskOk.l0 k1 (wrap64 (x3_1 + 1)) l0_0) else (some false)) else (none)) else (none)) else (spec_DiskOk.l0 k1 (wrap64 (x3_1 + 1)) l0_0))) else (some false)) = some r := H
            have A9 := Aside0.mk A90
            clear A90
            by_cases c10 : t263 = true
            · subst c10
              have H1 : (if (((rd_T71 l0_0 x3_1).f1).size : Int) > 20000 then (some false) else (if x3_1 > 0 then (if 0 ≤ (wrap64 (x3_1 - 1)) then (if (wrap64 (x3_1 - 1)) < (l0_0.length : Int) then (if ((Op.bytesLess (((rd_T71 l0_0 (wrap64 (x3_1 - 1))).f0).toList) (((rd_T71 l0_0 x3_1).f0).toList)) = true) then (spec_DiskOk.l0 k1 (wrap64 (x3_1 + 1)) l0_0) else (some false)) else (none)) else (none)) else (spec_DiskOk.l0 k1 (wrap64 (x3_1 + 1)) l0_0))) = some r := by rw [if_pos rfl] at H; exact H
              clear H
              have H := H1
              clear H1
              by_cases c11 : (((rd_T71 l0_0 x3_1).f1).size : Int) > 20000
              · rw [if_pos c11] at H
                have c11b0 : decide (20000 < (((rd_T71 l0_0 x3_1).f1).size : Int)) = true := decide_eq_true c11
                have c11b1 : decide (20000 < ((rd_T71 l0_0 x3_1).f1).size) = true := decide_eq_true (by omega)
                clear c11
                obtain rfl := Option.some.inj H
                have hcz12_0 := bc0 BK261
                have hfz12_0 := bf BK261 0
                have p262 : 0 ≤ (x3_1 : Int) := of_decide_eq_true t7_
                have q262 : x3_1 < (l0_0.length : Int) := of_decide_eq_true t7_
                obtain ⟨ad262, e262, hx262_0, hx262_1⟩ := at_T71 HR0_0.out x3_1 p262 q262
                cases e262
                replace hx262_0 := (HB.out.cell (World.block_lt_of_cell? w _ hx262_0)).trans hx262_0
                replace hx262_1 := (HB.out.cell (World.block_lt_of_cell? w _ hx262_1)).trans hx262_1
                replace p262 := eq_true p262
                replace q262 := eq_true q262
                (have p264 : 0 ≤ (x3_1 : Int) := of_decide_eq_true t7_; have q264 : x3_1 < (l0_0.length : Int) := of_decide_eq_true t7_; obtain ⟨ad264, e264, hx264_0, hx264_1⟩ := at_T71 HR0_0.out x3_1 p264 q264; obtain rfl : ad262 = ad264 := (by injection e264); replace hx264_0 := (HB.out.cell (World.block_lt_of_cell? w _ hx264_0)).trans hx264_0; replace hx264_1 := (HB.out.cell (World.block_lt_of_cell? w _ hx264_1)).trans hx264_1; replace p264 := eq_true p264; replace q264 := eq_true q264)
                go_wp2_with (first | (go_at_call 57; (with_reducible refine (spec_l01In.calls (((rd_T71 l0_0 x3_1).f0).size : Int) 1 12 true _ A9.out).mono ?_); rintro e w' ⟨rfl, ⟨nd, rfl⟩⟩; (try first | exact ⟨rfl, _, World.drewN_drewN _ _ _⟩ | exact ⟨rfl, _, Eq.trans (World.drewN_drewN _ _ _) (congrArg (World.drewN _) (Nat.add_assoc _ _ _))⟩)))
                repeat (go_quiet (first | (go_at_call 57; (with_reducible refine (spec_l01In.calls (((rd_T71 l0_0 x3_1).f0).size : Int) 1 12 true _ A9.out).mono ?_); rintro e w' ⟨rfl, ⟨nd, rfl⟩⟩; (try first | exact ⟨rfl, _, World.drewN_drewN _ _ _⟩ | exact ⟨rfl, _, Eq.trans (World.drewN_drewN _ _ _) (congrArg (World.drewN _) (Nat.add_assoc _ _ _))⟩))); try go_wp2_with (first | (go_at_call 57; (with_reducible refine (spec_l01In.calls (((rd_T71 l0_0 x3_1).f0).size : Int) 1 12 true _ A9.out).mono ?_); rintro e w' ⟨rfl, ⟨nd, rfl⟩⟩; (try first | exact ⟨rfl, _, World.drewN_drewN _ _ _⟩ | exact ⟨rfl, _, Eq.trans (World.drewN_drewN _ _ _) (congrArg (World.drewN _) (Nat.add_assoc _ _ _))⟩); have p264 : 0 ≤ (x3_1 : Int) := of_decide_eq_true t7_; have q264 : x3_1 < (l0_0.length : Int) := of_decide_eq_true t7_; obtain ⟨ad264, e264, hx264_0, hx264_1⟩ := at_T71 HR0_0.out x3_1 p264 q264; obtain rfl : ad262 = ad264 := (by injection e264); replace hx264_0 := (HB.out.cell (World.block_lt_of_cell? w _ hx264_0)).trans hx264_0; replace hx264_1 := (HB.out.cell (World.block_lt_of_cell? w _ hx264_1)).trans hx264_1; replace p264 := eq_true p264; replace q264 := eq_true q264)))
                go_ret
                exact ⟨by first | rfl | (simp [errW_none, errW_some] <;> rfl) | (simp [*, errW_none, errW_some] <;> rfl), t43_⟩
              · rw [if_neg c11] at H
                have c11b0 : decide (20000 < (((rd_T71 l0_0 x3_1).f1).size : Int)) = false := decide_eq_false c11
                have c11b1 : decide (20000 < ((rd_T71 l0_0 x3_1).f1).size) = false := decide_eq_false (by omega)
                clear c11
                by_cases c13 : x3_1 > 0
                · rw [if_pos c13] at H
                  have c13b0 : decide (0 < x3_1) = true := decide_eq_true c13
                  clear c13
                  obtain ⟨ji14, hji14⟩ : ∃ j_ : Int, (wrap64 (x3_1 - 1)) = j_ := ⟨_, rfl⟩
                  replace H : (if 0 ≤ (ji14) then (if (ji14) < (l0_0.length : Int) then (if ((Op.bytesLess (((rd_T71 l0_0 (ji14)).f0).toList) (((rd_T71 l0_0 x3_1).f0).toList)) = true) then (spec_DiskOk.l0 k1 (wrap64 (x3_1 + 1)) l0_0) else (some false)) else (none)) else (none)) = some r := by first | (rw [hji14] at H; exact H) | (simp only [hji14] at H ⊢; exact H)
                  (try rw [hji14] at A9)
                  have hji14w : (IntKind.i64.wrap (x3_1 - 1)) = ji14 := (i64_w _).trans hji14
                  by_cases c15 : 0 ≤ (ji14)
                  · rw [if_pos c15] at H
                    have c15b0 : decide (0 ≤ (ji14)) = true := decide_eq_true c15
                    clear c15
                    by_cases c16 : (ji14) < (l0_0.length : Int)
                    · rw [if_pos c16] at H
                      have c16b0 : decide ((ji14) < (l0_0.length : Int)) = true := decide_eq_true c16
                      clear c16
                      by_cases c17 : ((Op.bytesLess (((rd_T71 l0_0 (ji14)).f0).toList) (((rd_T71 l0_0 x3_1).f0).toList)) = true)
                      · rw [if_pos c17] at H
                        have c17b0 : (Op.bytesLess (((rd_T71 l0_0 (ji14)).f0).toList) (((rd_T71 l0_0 x3_1).f0).toList)) = true := c17
                        obtain ⟨c17b7, c17b6⟩ := bl_gtr_t c17b0
                        clear c17
                        have H' := Aside0.mk H
                        clear H
                        have hcz18_0 := bc0 BK261
                        have hfz18_0 := bf BK261 0
                        have p262 : 0 ≤ (x3_1 : Int) := of_decide_eq_true t7_
                        have q262 : x3_1 < (l0_0.length : Int) := of_decide_eq_true t7_
                        obtain ⟨ad262, e262, hx262_0, hx262_1⟩ := at_T71 HR0_0.out x3_1 p262 q262
                        cases e262
                        replace hx262_0 := (HB.out.cell (World.block_lt_of_cell? w _ hx262_0)).trans hx262_0
                        replace hx262_1 := (HB.out.cell (World.block_lt_of_cell? w _ hx262_1)).trans hx262_1
                        replace p262 := eq_true p262
                        replace q262 := eq_true q262
                        (have p264 : 0 ≤ (x3_1 : Int) := of_decide_eq_true t7_; have q264 : x3_1 < (l0_0.length : Int) := of_decide_eq_true t7_; obtain ⟨ad264, e264, hx264_0, hx264_1⟩ := at_T71 HR0_0.out x3_1 p264 q264; obtain rfl : ad262 = ad264 := (by injection e264); replace hx264_0 := (HB.out.cell (World.block_lt_of_cell? w _ hx264_0)).trans hx264_0; replace hx264_1 := (HB.out.cell (World.block_lt_of_cell? w _ hx264_1)).trans hx264_1; replace p264 := eq_true p264; replace q264 := eq_true q264; have p265 : 0 ≤ ((ji14) : Int) := of_decide_eq_true t7_; have q265 : (ji14) < (l0_0.length : Int) := of_decide_eq_true t7_; obtain ⟨ad265, e265, hx265_0, hx265_1⟩ := at_T71 HR0_0.out (ji14) p265 q265; obtain rfl : ad262 = ad265 := (by injection e265); replace hx265_0 := (HB.out.cell (World.block_lt_of_cell? w _ hx265_0)).trans hx265_0; replace hx265_1 := (HB.out.cell (World.block_lt_of_cell? w _ hx265_1)).trans hx265_1; replace p265 := eq_true p265; replace q265 := eq_true q265; have p266 : 0 ≤ (x3_1 : Int) := of_decide_eq_true t7_; have q266 : x3_1 < (l0_0.length : Int) := of_decide_eq_true t7_; obtain ⟨ad266, e266, hx266_0, hx266_1⟩ := at_T71 HR0_0.out x3_1 p266 q266; obtain rfl : ad262 = ad266 := (by injection e266); replace hx266_0 := (HB.out.cell (World.block_lt_of_cell? w _ hx266_0)).trans hx266_0; replace hx266_1 := (HB.out.cell (World.block_lt_of_cell? w _ hx266_1)).trans hx266_1; replace p266 := eq_true p266; replace q266 := eq_true q266)
                        go_wp2_with (first | (go_at_call 57; (with_reducible refine (spec_l01In.calls (((rd_T71 l0_0 x3_1).f0).size : Int) 1 12 true _ A9.out).mono ?_); rintro e w' ⟨rfl, ⟨nd, rfl⟩⟩; (try first | exact ⟨rfl, _, World.drewN_drewN _ _ _⟩ | exact ⟨rfl, _, Eq.trans (World.drewN_drewN _ _ _) (congrArg (World.drewN _) (Nat.add_assoc _ _ _))⟩)))
                        repeat (go_quiet (first | (go_at_call 57; (with_reducible refine (spec_l01In.calls (((rd_T71 l0_0 x3_1).f0).size : Int) 1 12 true _ A9.out).mono ?_); rintro e w' ⟨rfl, ⟨nd, rfl⟩⟩; (try first | exact ⟨rfl, _, World.drewN_drewN _ _ _⟩ | exact ⟨rfl, _, Eq.trans (World.drewN_drewN _ _ _) (congrArg (World.drewN _) (Nat.add_assoc _ _ _))⟩))); try go_wp2_with (first | (go_at_call 57; (with_reducible refine (spec_l01In.calls (((rd_T71 l0_0 x3_1).f0).size : Int) 1 12 true _ A9.out).mono ?_); rintro e w' ⟨rfl, ⟨nd, rfl⟩⟩; (try first | exact ⟨rfl, _, World.drewN_drewN _ _ _⟩ | exact ⟨rfl, _, Eq.trans (World.drewN_drewN _ _ _) (congrArg (World.drewN _) (Nat.add_assoc _ _ _))⟩); have p264 : 0 ≤ (x3_1 : Int) := of_decide_eq_true t7_; have q264 : x3_1 < (l0_0.length : Int) := of_decide_eq_true t7_; obtain ⟨ad264, e264, hx264_0, hx264_1⟩ := at_T71 HR0_0.out x3_1 p264 q264; obtain rfl : ad262 = ad264 := (by injection e264); replace hx264_0 := (HB.out.cell (World.block_lt_of_cell? w _ hx264_0)).trans hx264_0; replace hx264_1 := (HB.out.cell (World.block_lt_of_cell? w _ hx264_1)).trans hx264_1; replace p264 := eq_true p264; replace q264 := eq_true q264; have p265 : 0 ≤ ((ji14) : Int) := of_decide_eq_true t7_; have q265 : (ji14) < (l0_0.length : Int) := of_decide_eq_true t7_; obtain ⟨ad265, e265, hx265_0, hx265_1⟩ := at_T71 HR0_0.out (ji14) p265 q265; obtain rfl : ad262 = ad265 := (by injection e265); replace hx265_0 := (HB.out.cell (World.block_lt_of_cell? w _ hx265_0)).trans hx265_0; replace hx265_1 := (HB.out.cell (World.block_lt_of_cell? w _ hx265_1)).trans hx265_1; replace p265 := eq_true p265; replace q265 := eq_true q265; have p266 : 0 ≤ (x3_1 : Int) := of_decide_eq_true t7_; have q266 : x3_1 < (l0_0.length : Int) := of_decide_eq_true t7_; obtain ⟨ad266, e266, hx266_0, hx266_1⟩ := at_T71 HR0_0.out x3_1 p266 q266; obtain rfl : ad262 = ad266 := (by injection e266); replace hx266_0 := (HB.out.cell (World.block_lt_of_cell? w _ hx266_0)).trans hx266_0; replace hx266_1 := (HB.out.cell (World.block_lt_of_cell? w _ hx266_1)).trans hx266_1; replace p266 := eq_true p266; replace q266 := eq_true q266)))
                        go_roundg k1
                        case measure => have := HK1.out; omega
                        case rel => exact ⟨(wrap64 (x3_1 + 1)), t19_, H', ⟨by have := HK1.out; omega⟩, ⟨by (with_reducible repeat (first | refine blk_drewN ?_ _ | refine blk_drew ?_ | refine blk_alloc ?_ _)); exact BK261.out⟩, ⟨t43_⟩⟩
                      · rw [if_neg c17] at H
                        have c17b0 : (Op.bytesLess (((rd_T71 l0_0 (ji14)).f0).toList) (((rd_T71 l0_0 x3_1).f0).toList)) = false := by simpa using c17
                        obtain ⟨c17b7, c17b6⟩ := bl_gtr_f c17b0
                        clear c17
                        obtain rfl := Option.some.inj H
                        have hcz19_0 := bc0 BK261
                        have hfz19_0 := bf BK261 0
                        have p262 : 0 ≤ (x3_1 : Int) := of_decide_eq_true t7_
                        have q262 : x3_1 < (l0_0.length : Int) := of_decide_eq_true t7_
                        obtain ⟨ad262, e262, hx262_0, hx262_1⟩ := at_T71 HR0_0.out x3_1 p262 q262
                        cases e262
                        replace hx262_0 := (HB.out.cell (World.block_lt_of_cell? w _ hx262_0)).trans hx262_0
                        replace hx262_1 := (HB.out.cell (World.block_lt_of_cell? w _ hx262_1)).trans hx262_1
                        replace p262 := eq_true p262
                        replace q262 := eq_true q262
                        (have p264 : 0 ≤ (x3_1 : Int) := of_decide_eq_true t7_; have q264 : x3_1 < (l0_0.length : Int) := of_decide_eq_true t7_; obtain ⟨ad264, e264, hx264_0, hx264_1⟩ := at_T71 HR0_0.out x3_1 p264 q264; obtain rfl : ad262 = ad264 := (by injection e264); replace hx264_0 := (HB.out.cell (World.block_lt_of_cell? w _ hx264_0)).trans hx264_0; replace hx264_1 := (HB.out.cell (World.block_lt_of_cell? w _ hx264_1)).trans hx264_1; replace p264 := eq_true p264; replace q264 := eq_true q264; have p265 : 0 ≤ ((ji14) : Int) := of_decide_eq_true t7_; have q265 : (ji14) < (l0_0.length : Int) := of_decide_eq_true t7_; obtain ⟨ad265, e265, hx265_0, hx265_1⟩ := at_T71 HR0_0.out (ji14) p265 q265; obtain rfl : ad262 = ad265 := (by injection e265); replace hx265_0 := (HB.out.cell (World.block_lt_of_cell? w _ hx265_0)).trans hx265_0; replace hx265_1 := (HB.out.cell (World.block_lt_of_cell? w _ hx265_1)).trans hx265_1; replace p265 := eq_true p265; replace q265 := eq_true q265; have p266 : 0 ≤ (x3_1 : Int) := of_decide_eq_true t7_; have q266 : x3_1 < (l0_0.length : Int) := of_decide_eq_true t7_; obtain ⟨ad266, e266, hx266_0, hx266_1⟩ := at_T71 HR0_0.out x3_1 p266 q266; obtain rfl : ad262 = ad266 := (by injection e266); replace hx266_0 := (HB.out.cell (World.block_lt_of_cell? w _ hx266_0)).trans hx266_0; replace hx266_1 := (HB.out.cell (World.block_lt_of_cell? w _ hx266_1)).trans hx266_1; replace p266 := eq_true p266; replace q266 := eq_true q266)
                        go_wp2_with (first | (go_at_call 57; (with_reducible refine (spec_l01In.calls (((rd_T71 l0_0 x3_1).f0).size : Int) 1 12 true _ A9.out).mono ?_); rintro e w' ⟨rfl, ⟨nd, rfl⟩⟩; (try first | exact ⟨rfl, _, World.drewN_drewN _ _ _⟩ | exact ⟨rfl, _, Eq.trans (World.drewN_drewN _ _ _) (congrArg (World.drewN _) (Nat.add_assoc _ _ _))⟩)))
                        repeat (go_quiet (first | (go_at_call 57; (with_reducible refine (spec_l01In.calls (((rd_T71 l0_0 x3_1).f0).size : Int) 1 12 true _ A9.out).mono ?_); rintro e w' ⟨rfl, ⟨nd, rfl⟩⟩; (try first | exact ⟨rfl, _, World.drewN_drewN _ _ _⟩ | exact ⟨rfl, _, Eq.trans (World.drewN_drewN _ _ _) (congrArg (World.drewN _) (Nat.add_assoc _ _ _))⟩))); try go_wp2_with (first | (go_at_call 57; (with_reducible refine (spec_l01In.calls (((rd_T71 l0_0 x3_1).f0).size : Int) 1 12 true _ A9.out).mono ?_); rintro e w' ⟨rfl, ⟨nd, rfl⟩⟩; (try first | exact ⟨rfl, _, World.drewN_drewN _ _ _⟩ | exact ⟨rfl, _, Eq.trans (World.drewN_drewN _ _ _) (congrArg (World.drewN _) (Nat.add_assoc _ _ _))⟩); have p264 : 0 ≤ (x3_1 : Int) := of_decide_eq_true t7_; have q264 : x3_1 < (l0_0.length : Int) := of_decide_eq_true t7_; obtain ⟨ad264, e264, hx264_0, hx264_1⟩ := at_T71 HR0_0.out x3_1 p264 q264; obtain rfl : ad262 = ad264 := (by injection e264); replace hx264_0 := (HB.out.cell (World.block_lt_of_cell? w _ hx264_0)).trans hx264_0; replace hx264_1 := (HB.out.cell (World.block_lt_of_cell? w _ hx264_1)).trans hx264_1; replace p264 := eq_true p264; replace q264 := eq_true q264; have p265 : 0 ≤ ((ji14) : Int) := of_decide_eq_true t7_; have q265 : (ji14) < (l0_0.length : Int) := of_decide_eq_true t7_; obtain ⟨ad265, e265, hx265_0, hx265_1⟩ := at_T71 HR0_0.out (ji14) p265 q265; obtain rfl : ad262 = ad265 := (by injection e265); replace hx265_0 := (HB.out.cell (World.block_lt_of_cell? w _ hx265_0)).trans hx265_0; replace hx265_1 := (HB.out.cell (World.block_lt_of_cell? w _ hx265_1)).trans hx265_1; replace p265 := eq_true p265; replace q265 := eq_true q265; have p266 : 0 ≤ (x3_1 : Int) := of_decide_eq_true t7_; have q266 : x3_1 < (l0_0.length : Int) := of_decide_eq_true t7_; obtain ⟨ad266, e266, hx266_0, hx266_1⟩ := at_T71 HR0_0.out x3_1 p266 q266; obtain rfl : ad262 = ad266 := (by injection e266); replace hx266_0 := (HB.out.cell (World.block_lt_of_cell? w _ hx266_0)).trans hx266_0; replace hx266_1 := (HB.out.cell (World.block_lt_of_cell? w _ hx266_1)).trans hx266_1; replace p266 := eq_true p266; replace q266 := eq_true q266)))
                        go_ret
                        exact ⟨by first | rfl | (simp [errW_none, errW_some] <;> rfl) | (simp only [← hji14]; first | rfl | (simp [errW_none, errW_some] <;> rfl)) | (simp [*, errW_none, errW_some] <;> rfl), t43_⟩
                    · rw [if_neg c16] at H
                      exact absurd H (by simp)
                  · rw [if_neg c15] at H
                    exact absurd H (by simp)
                · rw [if_neg c13] at H
                  have c13b0 : decide (0 < x3_1) = false := decide_eq_false c13
                  clear c13
                  have H' := Aside0.mk H
                  clear H
                  have hcz20_0 := bc0 BK261
                  have hfz20_0 := bf BK261 0
                  have p262 : 0 ≤ (x3_1 : Int) := of_decide_eq_true t7_
                  have q262 : x3_1 < (l0_0.length : Int) := of_decide_eq_true t7_
                  obtain ⟨ad262, e262, hx262_0, hx262_1⟩ := at_T71 HR0_0.out x3_1 p262 q262
                  cases e262
                  replace hx262_0 := (HB.out.cell (World.block_lt_of_cell? w _ hx262_0)).trans hx262_0
                  replace hx262_1 := (HB.out.cell (World.block_lt_of_cell? w _ hx262_1)).trans hx262_1
                  replace p262 := eq_true p262
                  replace q262 := eq_true q262
                  (have p264 : 0 ≤ (x3_1 : Int) := of_decide_eq_true t7_; have q264 : x3_1 < (l0_0.length : Int) := of_decide_eq_true t7_; obtain ⟨ad264, e264, hx264_0, hx264_1⟩ := at_T71 HR0_0.out x3_1 p264 q264; obtain rfl : ad262 = ad264 := (by injection e264); replace hx264_0 := (HB.out.cell (World.block_lt_of_cell? w _ hx264_0)).trans hx264_0; replace hx264_1 := (HB.out.cell (World.block_lt_of_cell? w _ hx264_1)).trans hx264_1; replace p264 := eq_true p264; replace q264 := eq_true q264)
                  go_wp2_with (first | (go_at_call 57; (with_reducible refine (spec_l01In.calls (((rd_T71 l0_0 x3_1).f0).size : Int) 1 12 true _ A9.out).mono ?_); rintro e w' ⟨rfl, ⟨nd, rfl⟩⟩; (try first | exact ⟨rfl, _, World.drewN_drewN _ _ _⟩ | exact ⟨rfl, _, Eq.trans (World.drewN_drewN _ _ _) (congrArg (World.drewN _) (Nat.add_assoc _ _ _))⟩)))
                  repeat (go_quiet (first | (go_at_call 57; (with_reducible refine (spec_l01In.calls (((rd_T71 l0_0 x3_1).f0).size : Int) 1 12 true _ A9.out).mono ?_); rintro e w' ⟨rfl, ⟨nd, rfl⟩⟩; (try first | exact ⟨rfl, _, World.drewN_drewN _ _ _⟩ | exact ⟨rfl, _, Eq.trans (World.drewN_drewN _ _ _) (congrArg (World.drewN _) (Nat.add_assoc _ _ _))⟩))); try go_wp2_with (first | (go_at_call 57; (with_reducible refine (spec_l01In.calls (((rd_T71 l0_0 x3_1).f0).size : Int) 1 12 true _ A9.out).mono ?_); rintro e w' ⟨rfl, ⟨nd, rfl⟩⟩; (try first | exact ⟨rfl, _, World.drewN_drewN _ _ _⟩ | exact ⟨rfl, _, Eq.trans (World.drewN_drewN _ _ _) (congrArg (World.drewN _) (Nat.add_assoc _ _ _))⟩); have p264 : 0 ≤ (x3_1 : Int) := of_decide_eq_true t7_; have q264 : x3_1 < (l0_0.length : Int) := of_decide_eq_true t7_; obtain ⟨ad264, e264, hx264_0, hx264_1⟩ := at_T71 HR0_0.out x3_1 p264 q264; obtain rfl : ad262 = ad264 := (by injection e264); replace hx264_0 := (HB.out.cell (World.block_lt_of_cell? w _ hx264_0)).trans hx264_0; replace hx264_1 := (HB.out.cell (World.block_lt_of_cell? w _ hx264_1)).trans hx264_1; replace p264 := eq_true p264; replace q264 := eq_true q264)))
                  go_roundg k1
                  case measure => have := HK1.out; omega
                  case rel => exact ⟨(wrap64 (x3_1 + 1)), t19_, H', ⟨by have := HK1.out; omega⟩, ⟨by (with_reducible repeat (first | refine blk_drewN ?_ _ | refine blk_drew ?_ | refine blk_alloc ?_ _)); exact BK261.out⟩, ⟨t43_⟩⟩
            · replace c10 := Bool.eq_false_iff.mpr c10
              subst c10
              have H1 : (some false) = some r := by rw [if_neg (show ¬ (false = true) by decide)] at H; exact H
              clear H
              have H := H1
              clear H1
              obtain rfl := Option.some.inj H
              have hcz21_0 := bc0 BK261
              have hfz21_0 := bf BK261 0
              have p262 : 0 ≤ (x3_1 : Int) := of_decide_eq_true t7_
              have q262 : x3_1 < (l0_0.length : Int) := of_decide_eq_true t7_
              obtain ⟨ad262, e262, hx262_0, hx262_1⟩ := at_T71 HR0_0.out x3_1 p262 q262
              cases e262
              replace hx262_0 := (HB.out.cell (World.block_lt_of_cell? w _ hx262_0)).trans hx262_0
              replace hx262_1 := (HB.out.cell (World.block_lt_of_cell? w _ hx262_1)).trans hx262_1
              replace p262 := eq_true p262
              replace q262 := eq_true q262
              go_wp2_with (first | (go_at_call 57; (with_reducible refine (spec_l01In.calls (((rd_T71 l0_0 x3_1).f0).size : Int) 1 12 false _ A9.out).mono ?_); rintro e w' ⟨rfl, ⟨nd, rfl⟩⟩; (try first | exact ⟨rfl, _, World.drewN_drewN _ _ _⟩ | exact ⟨rfl, _, Eq.trans (World.drewN_drewN _ _ _) (congrArg (World.drewN _) (Nat.add_assoc _ _ _))⟩)))
              repeat (go_quiet (first | (go_at_call 57; (with_reducible refine (spec_l01In.calls (((rd_T71 l0_0 x3_1).f0).size : Int) 1 12 false _ A9.out).mono ?_); rintro e w' ⟨rfl, ⟨nd, rfl⟩⟩; (try first | exact ⟨rfl, _, World.drewN_drewN _ _ _⟩ | exact ⟨rfl, _, Eq.trans (World.drewN_drewN _ _ _) (congrArg (World.drewN _) (Nat.add_assoc _ _ _))⟩))); try go_wp2_with (first | (go_at_call 57; (with_reducible refine (spec_l01In.calls (((rd_T71 l0_0 x3_1).f0).size : Int) 1 12 false _ A9.out).mono ?_); rintro e w' ⟨rfl, ⟨nd, rfl⟩⟩; (try first | exact ⟨rfl, _, World.drewN_drewN _ _ _⟩ | exact ⟨rfl, _, Eq.trans (World.drewN_drewN _ _ _) (congrArg (World.drewN _) (Nat.add_assoc _ _ _))⟩))))
              go_ret
              exact ⟨by first | rfl | (simp [errW_none, errW_some] <;> rfl) | (simp [*, errW_none, errW_some] <;> rfl), t43_⟩
          · rw [if_neg c8] at H
            exact absurd H (by simp)
        · rw [if_neg c7] at H
          have c7b0 : decide (x3_1 < (l0_0.length : Int)) = false := decide_eq_false c7
          clear c7
          obtain rfl := Option.some.inj H
          have hcz22_0 := bc0 BK261
          have hfz22_0 := bf BK261 0
          go_wp2
          repeat (go_quiet (fail); try go_wp2)
          go_ret
          exact ⟨by first | rfl | (simp [errW_none, errW_some] <;> rfl) | (simp [*, errW_none, errW_some] <;> rfl), t43_⟩

end Go.Proofs.Ytpjhbhjmaggheaa.QFnExactPutRaws
