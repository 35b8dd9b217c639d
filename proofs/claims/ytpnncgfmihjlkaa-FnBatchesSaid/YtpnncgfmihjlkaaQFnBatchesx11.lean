-- By a program of this session, over the kit's print.
import Derived.Test.YtpnncgfmihjlkaaQFnBatchesx0
import Derived.Test.YtpnncgfmihjlkaaQFnBatchesx1
import Derived.Test.YtpnncgfmihjlkaaQFnBatchesx2
import Derived.Test.YtpnncgfmihjlkaaQFnBatchesx6
import Derived.Test.YtpnncgfmihjlkaaQFnBatchesx7
import Derived.Test.YtpnncgfmihjlkaaQFnBatchesx10
namespace Go.Proofs.Ytpnncgfmihjlkaa.QFnBatches
open Go.RowKit Go.Proofs.YtpnncgfmihjlkaaW.PrintWords Go.Proofs.YtpnncgfmihjlkaaW.PrintLast Go.Proofs.YtpnncgfmihjlkaaW.PrintMore
attribute [local go_sem] max2_int min2_int max_two min_two max_three min_three max_four min_four   -- for this text's walks alone
set_option linter.unusedVariables false
set_option linter.unusedSimpArgs false

attribute [local go_sem high] eqA80
/-! ### laws_sameBatch: function 30 -/
mutual
def laws_sameBatch.j0 : Nat → Bool → Int → List (S80) → Int → List (S80) → Option (Bool)
 | 0, _, _, _, _, _ => none
 | k + 1, x19, x309000, x309001, x310000, x310001 => if x19 = true then (some false) else (laws_sameBatch.l0 k 0 x309000 x309001 x310000 x310001)
def laws_sameBatch.l0 : Nat → Int → Int → List (S80) → Int → List (S80) → Option (Bool)
 | 0, _, _, _, _, _ => none
 | k + 1, x5, x309000, x309001, x310000, x310001 => if x5 < (x309001.length : Int) then (if 0 ≤ x5 then (if x5 < (x310001.length : Int) then (if (!((((rd_T80 x309001 x5).f0).toList) == (((rd_T80 x310001 x5).f0).toList)) || (!((((rd_T80 x309001 x5).f1).toList) == (((rd_T80 x310001 x5).f1).toList)) || (!(((rd_T80 x309001 x5).f2) == ((rd_T80 x310001 x5).f2))))) = true then (some false) else (laws_sameBatch.l0 k (wrap64 (x5 + 1)) x309000 x309001 x310000 x310001)) else (none)) else (none)) else (some true)
end
def laws_sameBatch.f (k : Nat) (a0_0 : Int) (l0_1 : List (S80)) (a1_0 : Int) (l1_1 : List (S80)) : Option (Bool) := if a0_0 = a1_0 then (laws_sameBatch.j0 k ((l0_1.length : Int) != (l1_1.length : Int)) a0_0 l0_1 a1_0 l1_1) else (laws_sameBatch.j0 k true a0_0 l0_1 a1_0 l1_1)
theorem laws_sameBatch.mono_l : ∀ k, (∀ y0 y1 y2 y3 y4, LeO (laws_sameBatch.j0 k y0 y1 y2 y3 y4) (laws_sameBatch.j0 (k + 1) y0 y1 y2 y3 y4)) ∧ (∀ y0 y1 y2 y3 y4, LeO (laws_sameBatch.l0 k y0 y1 y2 y3 y4) (laws_sameBatch.l0 (k + 1) y0 y1 y2 y3 y4))
 | 0 => ⟨fun _ _ _ _ _ r h => by simp [laws_sameBatch.j0] at h, fun _ _ _ _ _ r h => by simp [laws_sameBatch.l0] at h⟩
 | k + 1 => by
  obtain ⟨ih0, ih1⟩ := laws_sameBatch.mono_l k; refine ⟨?_, ?_⟩
  · intro y0 y1 y2 y3 y4
    unfold laws_sameBatch.j0
    repeat' first
    | (with_reducible exact ih0 _ _ _ _ _)
    | (with_reducible exact ih1 _ _ _ _ _)
    | (with_reducible exact LeO.refl _)
    | (with_reducible exact LeO.none _)
    | (with_reducible refine LeO.ite ?_ ?_)
    | (with_reducible refine LeO.bind ?_ (fun _ => ?_))
    | exact ih0 _ _ _ _ _
    | exact ih1 _ _ _ _ _
    | exact LeO.none _
    | refine LeO.ite ?_ ?_
    | refine LeO.bind ?_ (fun _ => ?_)
  · intro y0 y1 y2 y3 y4
    unfold laws_sameBatch.l0
    repeat' first
    | (with_reducible exact ih0 _ _ _ _ _)
    | (with_reducible exact ih1 _ _ _ _ _)
    | (with_reducible exact LeO.refl _)
    | (with_reducible exact LeO.none _)
    | (with_reducible refine LeO.ite ?_ ?_)
    | (with_reducible refine LeO.bind ?_ (fun _ => ?_))
    | exact ih0 _ _ _ _ _
    | exact ih1 _ _ _ _ _
    | exact LeO.none _
    | refine LeO.ite ?_ ?_
    | refine LeO.bind ?_ (fun _ => ?_)
theorem laws_sameBatch.mono : ∀ a0 a1 a2 a3 k, LeO (laws_sameBatch.f k a0 a1 a2 a3) (laws_sameBatch.f (k + 1) a0 a1 a2 a3) := by
 intro a0 a1 a2 a3 k; obtain ⟨ih0, ih1⟩ := laws_sameBatch.mono_l k
 unfold laws_sameBatch.f
 repeat' first
  | (with_reducible exact ih0 _ _ _ _ _)
  | (with_reducible exact ih1 _ _ _ _ _)
  | (with_reducible exact LeO.refl _)
  | (with_reducible exact LeO.none _)
  | (with_reducible refine LeO.ite ?_ ?_)
  | (with_reducible refine LeO.bind ?_ (fun _ => ?_))
  | exact ih0 _ _ _ _ _
  | exact ih1 _ _ _ _ _
  | exact LeO.none _
  | refine LeO.ite ?_ ?_
  | refine LeO.bind ?_ (fun _ => ?_)
set_option maxHeartbeats 8000000 in
set_option maxRecDepth 100000 in
theorem laws_sameBatch.calls (k : Nat) (a0_0 : Int) (A0_1 : Option Addr) (c0_1 : Nat) (l0_1 : List (S80)) (a1_0 : Int) (A1_1 : Option Addr) (c1_1 : Nat) (l1_1 : List (S80)) (r : Bool) (w : World) (hr0_1 : Kd.C k80 w A0_1 l0_1.length l0_1) (hc0_1 : l0_1.length ≤ c0_1) (hr1_1 : Kd.C k80 w A1_1 l1_1.length l1_1) (hc1_1 : l1_1.length ≤ c1_1) (h : laws_sameBatch.f k a0_0 l0_1 a1_0 l1_1 = some r) :
 Calls Try.prog 30 #[.agg #[.int .i64 a0_0, .slice A0_1 l0_1.length c0_1], .agg #[.int .i64 a1_0, .slice A1_1 l1_1.length c1_1]] w fun e w' => e = .returned (.bool r) ∧ Below w.heap.size w w' := by
 have hu46 := Try.underlying46; have hu80 := Try.underlying80; have HR0_1 := Aside0.mk hr0_1; have HC0_1 := Aside0.mk hc0_1; clear hr0_1 hc0_1; have HR1_1 := Aside0.mk hr1_1; have HC1_1 := Aside0.mk hc1_1; clear hr1_1 hc1_1; have HB := Aside0.mk (Below.refl w.heap.size w); have H : (if a0_0 = a1_0 then (laws_sameBatch.j0 k ((l0_1.length : Int) != (l1_1.length : Int)) a0_0 l0_1 a1_0 l1_1) else (laws_sameBatch.j0 k true a0_0 l0_1 a1_0 l1_1)) = some r := h; clear h; have HC3 := Aside0.mk H; clear H; go_enter Try.func30, Try.ntmps30
 go_upto_region 1 with (first | ((with_reducible refine gate_dst (N := 2) rfl ?_); (try (refine gate_guard (by rfl) ?_; dsimp only)); refine boxE (N := 2) (cs := #[.int .i64 a0_0, .slice A0_1 l0_1.length c0_1]) (t := 46) (h := ?_); intro gb308 hg w4 hbox hb; have BK308 := Aside0.mk (hbox); have GW308 := Aside0.mk ((t14_ : w.heap.size ≤ gb308)); have GE308 := GW308; replace HB := bS t1_ hb; clear hb hbox hg) | ((with_reducible refine gate_dst (N := 3) rfl ?_); (try (refine gate_guard (by rfl) ?_; dsimp only)); refine boxE (N := 3) (cs := #[.int .i64 a1_0, .slice A1_1 l1_1.length c1_1]) (t := 46) (h := ?_); intro gb309 hg w5 hbox hb; have BK309 := Aside0.mk (hbox); have GW309 := Aside0.mk ((t42_ : w.heap.size ≤ gb309)); have GE309 := GW309; replace HB := bS t34_ hb; have NB308_309 := nbL BK308 hg; have NB309_308 := nbG BK308 hg; replace BK308 := bkN BK308 hb; clear hb hbox hg))
 repeat (go_quiet (first | ((with_reducible refine gate_dst (N := 2) rfl ?_); (try (refine gate_guard (by rfl) ?_; dsimp only)); refine boxE (N := 2) (cs := #[.int .i64 a0_0, .slice A0_1 l0_1.length c0_1]) (t := 46) (h := ?_); intro gb308 hg w4 hbox hb; have BK308 := Aside0.mk (hbox); have GW308 := Aside0.mk ((t14_ : w.heap.size ≤ gb308)); have GE308 := GW308; replace HB := bS t1_ hb; clear hb hbox hg) | ((with_reducible refine gate_dst (N := 3) rfl ?_); (try (refine gate_guard (by rfl) ?_; dsimp only)); refine boxE (N := 3) (cs := #[.int .i64 a1_0, .slice A1_1 l1_1.length c1_1]) (t := 46) (h := ?_); intro gb309 hg w5 hbox hb; have BK309 := Aside0.mk (hbox); have GW309 := Aside0.mk ((t42_ : w.heap.size ≤ gb309)); have GE309 := GW309; replace HB := bS t34_ hb; have NB308_309 := nbL BK308 hg; have NB309_308 := nbG BK308 hg; replace BK308 := bkN BK308 hb; clear hb hbox hg)); go_upto_region 1 with (first | ((with_reducible refine gate_dst (N := 2) rfl ?_); (try (refine gate_guard (by rfl) ?_; dsimp only)); refine boxE (N := 2) (cs := #[.int .i64 a0_0, .slice A0_1 l0_1.length c0_1]) (t := 46) (h := ?_); intro gb308 hg w4 hbox hb; have BK308 := Aside0.mk (hbox); have GW308 := Aside0.mk ((t14_ : w.heap.size ≤ gb308)); have GE308 := GW308; replace HB := bS t1_ hb; clear hb hbox hg) | ((with_reducible refine gate_dst (N := 3) rfl ?_); (try (refine gate_guard (by rfl) ?_; dsimp only)); refine boxE (N := 3) (cs := #[.int .i64 a1_0, .slice A1_1 l1_1.length c1_1]) (t := 46) (h := ?_); intro gb309 hg w5 hbox hb; have BK309 := Aside0.mk (hbox); have GW309 := Aside0.mk ((t42_ : w.heap.size ≤ gb309)); have GE309 := GW309; replace HB := bS t34_ hb; have NB308_309 := nbL BK308 hg; have NB309_308 := nbG BK308 hg; replace BK308 := bkN BK308 hb; clear hb hbox hg)))
 (try simp only [Act.put, List.setIfInBounds_toArray, List.set_cons_zero, List.set_cons_succ])
 go_cut [19] (fun v19 wc => ∃ (kq : Nat) (x19_2 : Bool), v19 = .bool x19_2 ∧ Aside0 (laws_sameBatch.j0 kq x19_2 a0_0 l0_1 a1_0 l1_1 = some r) ∧ Aside0 (kq ≤ k) ∧ Aside0 (wc.heap[gb308]? = some (.cells #[.int .i64 a0_0, (.slice A0_1 l0_1.length c0_1)] 46 (0, 0))) ∧ Aside0 (wc.heap[gb309]? = some (.cells #[.int .i64 a1_0, (.slice A1_1 l1_1.length c1_1)] 46 (0, 0))) ∧ Aside0 (Below w.heap.size w wc))
 case first =>
  have H := HC3.out; clear HC3; by_cases c6 : a0_0 = a1_0
  · rw [if_pos c6] at H; have c6b0 : (a0_0 == a1_0) = true := beq_iff_eq.mpr c6; have c6b1 : (a0_0 != a1_0) = false := bne_eq_false_iff_eq.mpr c6; clear c6
    (first | rw [c6b0] | (simp only [i64_w, i32_w]; rw [c6b0]) | skip)
    have H' := Aside0.mk H; clear H; have hnb7 := NB308_309.out; have hnc7 := NB309_308.out; obtain ⟨hcz8_0, hcz8_1, hfz8_0, hfz8_1⟩ := ba2 BK308; obtain ⟨hcz9_0, hcz9_1, hfz9_0, hfz9_1⟩ := ba2 BK309; go_wp2
    repeat (go_quiet (fail); try go_wp2)
    go_meet
    case rel => exact ⟨_, (((l0_1.length : Int) != (l1_1.length : Int))), t23_, H', ⟨by first | omega | exact Nat.le_refl _⟩, ⟨zN BK308⟩, ⟨zN BK309⟩, ⟨t35_⟩⟩
  · rw [if_neg c6] at H; have c6b0 : (a0_0 == a1_0) = false := beq_eq_false_iff_ne.mpr c6; have c6b1 : (a0_0 != a1_0) = true := bne_iff_ne.mpr c6
    (first | rw [c6b0] | (simp only [i64_w, i32_w]; rw [c6b0]) | skip)
    have H' := Aside0.mk H; clear H; have hnb10 := NB308_309.out; have hnc10 := NB309_308.out; obtain ⟨hcz11_0, hcz11_1, hfz11_0, hfz11_1⟩ := ba2 BK308; obtain ⟨hcz12_0, hcz12_1, hfz12_0, hfz12_1⟩ := ba2 BK309; go_wp2
    repeat (go_quiet (fail); try go_wp2)
    go_meet
    case rel => exact ⟨_, (true), t23_, H', ⟨by first | omega | exact Nat.le_refl _⟩, ⟨zN BK308⟩, ⟨zN BK309⟩, ⟨t35_⟩⟩
 case rest =>
  clear HC3
  try clear c1
  try clear p2
  try clear c3
  try clear c6
  try clear c6b0
  try clear c6b1
  try clear c7
  try clear c10
  try clear hcz11_0
  try clear hcz11_1
  try clear hcz12_0
  try clear hcz12_1
  try clear hcz8_0
  try clear hcz8_1
  try clear hcz9_0
  try clear hcz9_1
  try clear hfz11_0
  try clear hfz11_1
  try clear hfz12_0
  try clear hfz12_1
  try clear hfz8_0
  try clear hfz8_1
  try clear hfz9_0
  try clear hfz9_1
  obtain ⟨kq, x19_2, rfl, HA, HJ2, BK308, BK309, HB⟩ := hcut
  cases kq with
  | zero => exact absurd HA.out (by simp [laws_sameBatch.j0])
  | succ kj2 =>
   have H := HA.out; clear HA; simp only [laws_sameBatch.j0] at H; by_cases c13 : x19_2 = true
   · subst c13; have H1 : (some false) = some r := by rw [if_pos rfl] at H; exact H
     clear H; have H := H1; clear H1; obtain rfl := Option.some.inj H; go_wp2
     repeat (go_quiet (fail); try go_wp2)
     go_ret; exact ⟨by first | rfl | (simp [errW_none, errW_some] <;> rfl) | (simp [*, errW_none, errW_some] <;> rfl), t35_⟩
   · replace c13 := Bool.eq_false_iff.mpr c13; subst c13; have H1 : (laws_sameBatch.l0 kj2 0 a0_0 l0_1 a1_0 l1_1) = some r := by rw [if_neg (show ¬ (false = true) by decide)] at H; exact H
     clear H; have H := H1; clear H1; have H' := Aside0.mk H; clear H; go_wp2
     repeat (go_quiet (fail); try go_wp2)
     go_loopg [5] kj2 (fun kq v5 w' => ∃ (x5_2 : Int), v5 = .int .i64 x5_2 ∧ Aside0 (laws_sameBatch.l0 kq x5_2 a0_0 l0_1 a1_0 l1_1 = some r) ∧ Aside0 (kq ≤ kj2) ∧ Aside0 (w'.heap[gb308]? = some (.cells #[.int .i64 a0_0, (.slice A0_1 l0_1.length c0_1)] 46 (0, 0))) ∧ Aside0 (w'.heap[gb309]? = some (.cells #[.int .i64 a1_0, (.slice A1_1 l1_1.length c1_1)] 46 (0, 0))) ∧ Aside0 (Below w.heap.size w w'))
     case atStart => exact ⟨(0), t23_, H', ⟨Nat.le_refl _⟩, ⟨zN BK308⟩, ⟨zN BK309⟩, ⟨t35_⟩⟩
     case round =>
      clear H'
      try clear c1
      try clear p2
      try clear c3
      try clear c6
      try clear c6b0
      try clear c6b1
      try clear c7
      try clear c10
      try clear c13
      try clear hcz11_0
      try clear hcz11_1
      try clear hcz12_0
      try clear hcz12_1
      try clear hcz8_0
      try clear hcz8_1
      try clear hcz9_0
      try clear hcz9_1
      try clear hfz11_0
      try clear hfz11_1
      try clear hfz12_0
      try clear hfz12_1
      try clear hfz8_0
      try clear hfz8_1
      try clear hfz9_0
      try clear hfz9_1
      try clear p2
      obtain ⟨x5_2, rfl, HA, HK2, BK308, BK309, HB⟩ := hrel
      cases gk with
      | zero => exact absurd HA.out (by simp [laws_sameBatch.l0])
      | succ k2 =>
       have H := HA.out; clear HA; simp only [laws_sameBatch.l0] at H; by_cases c14 : x5_2 < (l0_1.length : Int)
       · rw [if_pos c14] at H; have c14b0 : decide (x5_2 < (l0_1.length : Int)) = true := decide_eq_true c14; clear c14; by_cases c15 : 0 ≤ x5_2
         · rw [if_pos c15] at H; have c15b0 : decide (0 ≤ x5_2) = true := decide_eq_true c15; clear c15; by_cases c16 : x5_2 < (l1_1.length : Int)
           · rw [if_pos c16] at H; have c16b0 : decide (x5_2 < (l1_1.length : Int)) = true := decide_eq_true c16; clear c16; by_cases c17 : (!((((rd_T80 l0_1 x5_2).f0).toList) == (((rd_T80 l1_1 x5_2).f0).toList)) || (!((((rd_T80 l0_1 x5_2).f1).toList) == (((rd_T80 l1_1 x5_2).f1).toList)) || (!(((rd_T80 l0_1 x5_2).f2) == ((rd_T80 l1_1 x5_2).f2))))) = true
             · rw [if_pos c17] at H; have c17b0 : (!((((rd_T80 l0_1 x5_2).f0).toList) == (((rd_T80 l1_1 x5_2).f0).toList)) || (!((((rd_T80 l0_1 x5_2).f1).toList) == (((rd_T80 l1_1 x5_2).f1).toList)) || (!(((rd_T80 l0_1 x5_2).f2) == ((rd_T80 l1_1 x5_2).f2))))) = true := c17; clear c17; obtain rfl := Option.some.inj H; have hnb18 := NB308_309.out; have hnc18 := NB309_308.out; obtain ⟨hcz19_0, hcz19_1, hfz19_0, hfz19_1⟩ := ba2 BK308; have p310 : 0 ≤ (x5_2 : Int) := of_decide_eq_true t9_; have q310 : x5_2 < (l0_1.length : Int) := of_decide_eq_true t9_; obtain ⟨ad310, e310, hx310_0, hx310_1, hx310_2⟩ := at_T80 HR0_1.out x5_2 p310 q310
               cases e310
               replace hx310_0 := cW HB hx310_0; replace hx310_1 := cW HB hx310_1; replace hx310_2 := cW HB hx310_2; replace p310 := eq_true p310; replace q310 := eq_true q310; obtain ⟨hcz20_0, hcz20_1, hfz20_0, hfz20_1⟩ := ba2 BK309; have p311 : 0 ≤ (x5_2 : Int) := of_decide_eq_true t9_; have q311 : x5_2 < (l1_1.length : Int) := of_decide_eq_true t9_; obtain ⟨ad311, e311, hx311_0, hx311_1, hx311_2⟩ := at_T80 HR1_1.out x5_2 p311 q311
               cases e311
               replace hx311_0 := cW HB hx311_0; replace hx311_1 := cW HB hx311_1; replace hx311_2 := cW HB hx311_2; replace p311 := eq_true p311; replace q311 := eq_true q311; go_wp2
               repeat (go_quiet (fail); try go_wp2)
               go_ret; exact ⟨by first | rfl | (simp [errW_none, errW_some] <;> rfl) | (simp [*, errW_none, errW_some] <;> rfl), t35_⟩
             · rw [if_neg c17] at H; have c17b0 : (!((((rd_T80 l0_1 x5_2).f0).toList) == (((rd_T80 l1_1 x5_2).f0).toList)) || (!((((rd_T80 l0_1 x5_2).f1).toList) == (((rd_T80 l1_1 x5_2).f1).toList)) || (!(((rd_T80 l0_1 x5_2).f2) == ((rd_T80 l1_1 x5_2).f2))))) = false := by simpa using c17
               clear c17; have H' := Aside0.mk H; clear H; have hnb21 := NB308_309.out; have hnc21 := NB309_308.out; obtain ⟨hcz22_0, hcz22_1, hfz22_0, hfz22_1⟩ := ba2 BK308; have p310 : 0 ≤ (x5_2 : Int) := of_decide_eq_true t9_; have q310 : x5_2 < (l0_1.length : Int) := of_decide_eq_true t9_; obtain ⟨ad310, e310, hx310_0, hx310_1, hx310_2⟩ := at_T80 HR0_1.out x5_2 p310 q310
               cases e310
               replace hx310_0 := cW HB hx310_0; replace hx310_1 := cW HB hx310_1; replace hx310_2 := cW HB hx310_2; replace p310 := eq_true p310; replace q310 := eq_true q310; obtain ⟨hcz23_0, hcz23_1, hfz23_0, hfz23_1⟩ := ba2 BK309; have p311 : 0 ≤ (x5_2 : Int) := of_decide_eq_true t9_; have q311 : x5_2 < (l1_1.length : Int) := of_decide_eq_true t9_; obtain ⟨ad311, e311, hx311_0, hx311_1, hx311_2⟩ := at_T80 HR1_1.out x5_2 p311 q311
               cases e311
               replace hx311_0 := cW HB hx311_0; replace hx311_1 := cW HB hx311_1; replace hx311_2 := cW HB hx311_2; replace p311 := eq_true p311; replace q311 := eq_true q311; go_wp2
               repeat (go_quiet (fail); try go_wp2)
               go_roundg k2
               case measure => have := HJ2.out; have := HK2.out; omega
               case rel => exact ⟨(wrap64 (x5_2 + 1)), t23_, H', ⟨by have := HJ2.out; have := HK2.out; omega⟩, ⟨zN BK308⟩, ⟨zN BK309⟩, ⟨t35_⟩⟩
           · rw [if_neg c16] at H; exact absurd H (by simp)
         · rw [if_neg c15] at H; exact absurd H (by simp)
       · rw [if_neg c14] at H; have c14b0 : decide (x5_2 < (l0_1.length : Int)) = false := decide_eq_false c14; clear c14; obtain rfl := Option.some.inj H; have hnb24 := NB308_309.out; have hnc24 := NB309_308.out; obtain ⟨hcz25_0, hcz25_1, hfz25_0, hfz25_1⟩ := ba2 BK308; go_wp2
         repeat (go_quiet (fail); try go_wp2)
         go_ret; exact ⟨by first | rfl | (simp [errW_none, errW_some] <;> rfl) | (simp [*, errW_none, errW_some] <;> rfl), t35_⟩

/-! ### laws_FnBatches: function 6 -/
def laws_FnBatches.f (k : Nat) (l0 : List Int) : Option (Bool) := (laws_big.f l0).bind fun t312 => (if t312 = true then (some true) else ((spec_DrawBatchText.f k l0).bind fun bt313 => ((impl_BatchText.f k bt313.1 bt313.2).bind fun bt318 => ((impl_ReadBatch.f k bt318.1).bind fun bt320 => ((spec_BatchOk.f k bt313.1 bt313.2).bind fun t326 => (if (bt318.2 == t326) = true then ((impl_BatchOk.f k bt313.1 bt313.2).bind fun t327 => (if (t327 == bt318.2) = true then (if bt318.2 = true then (if bt320.2.2 = true then ((laws_sameBatch.f k bt320.1 bt320.2.1 bt313.1 bt313.2).bind fun t328 => (some t328)) else (none)) else (some true)) else (none))) else (none)))))))
theorem laws_FnBatches.mono : ∀ a0 k, LeO (laws_FnBatches.f k a0) (laws_FnBatches.f (k + 1) a0) := by
 intro a0 k
 unfold laws_FnBatches.f
 repeat' first
  | (with_reducible exact impl_BatchOk.mono _ _ _)
  | (with_reducible exact impl_BatchText.mono _ _ _)
  | (with_reducible exact impl_ReadBatch.mono _ _)
  | (with_reducible exact laws_sameBatch.mono _ _ _ _ _)
  | (with_reducible exact spec_BatchOk.mono _ _ _)
  | (with_reducible exact spec_DrawBatchText.mono _ _)
  | (with_reducible exact LeO.refl _)
  | (with_reducible exact LeO.none _)
  | (with_reducible refine LeO.ite ?_ ?_)
  | (with_reducible refine LeO.bind ?_ (fun _ => ?_))
  | exact impl_BatchOk.mono _ _ _
  | exact impl_BatchText.mono _ _ _
  | exact impl_ReadBatch.mono _ _
  | exact laws_sameBatch.mono _ _ _ _ _
  | exact spec_BatchOk.mono _ _ _
  | exact spec_DrawBatchText.mono _ _
  | exact LeO.none _
  | refine LeO.ite ?_ ?_
  | refine LeO.bind ?_ (fun _ => ?_)
set_option maxHeartbeats 8000000 in
set_option maxRecDepth 100000 in
theorem laws_FnBatches.calls (k : Nat) (A0 : Option Addr) (c0 : Nat) (l0 : List Int) (r : Bool) (w : World) (hr0 : Kd.C (Kd.int .u8) w A0 l0.length l0) (hc0 : l0.length ≤ c0) (h : laws_FnBatches.f k l0 = some r) :
 Calls Try.prog 6 #[.slice A0 l0.length c0] w fun e w' => e = .returned (.bool r) ∧ Below w.heap.size w w' := by
 have hu46 := Try.underlying46; have HR0 := Aside0.mk hr0; have HC0 := Aside0.mk hc0; clear hr0 hc0; have HB := Aside0.mk (Below.refl w.heap.size w); have H : ((laws_big.f l0).bind fun t312 => (if t312 = true then (some true) else ((spec_DrawBatchText.f k l0).bind fun bt313 => ((impl_BatchText.f k bt313.1 bt313.2).bind fun bt318 => ((impl_ReadBatch.f k bt318.1).bind fun bt320 => ((spec_BatchOk.f k bt313.1 bt313.2).bind fun t326 => (if (bt318.2 == t326) = true then ((impl_BatchOk.f k bt313.1 bt313.2).bind fun t327 => (if (t327 == bt318.2) = true then (if bt318.2 = true then (if bt320.2.2 = true then ((laws_sameBatch.f k bt320.1 bt320.2.1 bt313.1 bt313.2).bind fun t328 => (some t328)) else (none)) else (some true)) else (none))) else (none)))))))) = some r := h; clear h; replace H := Option.bind_eq_some_iff.mp H; obtain ⟨t312, A20, H⟩ := H; replace H : (if t312 = true then (some true) else ((spec_DrawBatchText.f k l0).bind fun bt313 => ((impl_BatchText.f k bt313.1 bt313.2).bind fun bt318 => ((impl_ReadBatch.f k bt318.1).bind fun bt320 => ((spec_BatchOk.f k bt313.1 bt313.2).bind fun t326 => (if (bt318.2 == t326) = true then ((impl_BatchOk.f k bt313.1 bt313.2).bind fun t327 => (if (t327 == bt318.2) = true then (if bt318.2 = true then (if bt320.2.2 = true then ((laws_sameBatch.f k bt320.1 bt320.2.1 bt313.1 bt313.2).bind fun t328 => (some t328)) else (none)) else (some true)) else (none))) else (none))))))) = some r := H; have A2 := Aside0.mk A20; clear A20; by_cases c3 : t312 = true
 · subst c3; have H1 : (some true) = some r := by rw [if_pos rfl] at H; exact H
   clear H; have H := H1; clear H1; obtain rfl := Option.some.inj H; go_enter Try.func6, Try.ntmps6
   go_wp2_with (first | ((with_reducible refine gate_callee (f := 9) rfl ?_); refine goesL_ (some 9) rfl rfl Try.func9 (by kernel_rfl) rfl #[.slice A0 l0.length c0] rfl t5_ ?_; (with_reducible refine (laws_big.calls _ _ l0 true _ ?side1 ?side2 A2.out).mono ?_); (case side1 => repeat (first | exact HR0.out | (with_reducible refine Kd.C_alloc ?_ _) | (with_reducible refine Kd.C_drewN ?_ _) | (with_reducible refine Kd.C_drew ?_))); (case side2 => exact HC0.out); rintro e w' ⟨rfl, ⟨nd, rfl⟩⟩; refine ⟨_, rfl, ?_⟩))
   go_ret; exact ⟨by first | rfl | (simp [errW_none, errW_some] <;> rfl) | (simp [*, errW_none, errW_some] <;> rfl), t1_⟩
 · replace c3 := Bool.eq_false_iff.mpr c3; subst c3; have H1 : ((spec_DrawBatchText.f k l0).bind fun bt313 => ((impl_BatchText.f k bt313.1 bt313.2).bind fun bt318 => ((impl_ReadBatch.f k bt318.1).bind fun bt320 => ((spec_BatchOk.f k bt313.1 bt313.2).bind fun t326 => (if (bt318.2 == t326) = true then ((impl_BatchOk.f k bt313.1 bt313.2).bind fun t327 => (if (t327 == bt318.2) = true then (if bt318.2 = true then (if bt320.2.2 = true then ((laws_sameBatch.f k bt320.1 bt320.2.1 bt313.1 bt313.2).bind fun t328 => (some t328)) else (none)) else (some true)) else (none))) else (none)))))) = some r := by rw [if_neg (show ¬ (false = true) by decide)] at H; exact H
   clear H; have H := H1; clear H1; replace H := Option.bind_eq_some_iff.mp H; obtain ⟨⟨t313, t314⟩, A40, H⟩ := H; replace H : ((impl_BatchText.f k t313 t314).bind fun bt318 => ((impl_ReadBatch.f k bt318.1).bind fun bt320 => ((spec_BatchOk.f k t313 t314).bind fun t326 => (if (bt318.2 == t326) = true then ((impl_BatchOk.f k t313 t314).bind fun t327 => (if (t327 == bt318.2) = true then (if bt318.2 = true then (if bt320.2.2 = true then ((laws_sameBatch.f k bt320.1 bt320.2.1 t313 t314).bind fun t328 => (some t328)) else (none)) else (some true)) else (none))) else (none))))) = some r := H; have A4 := Aside0.mk A40; clear A40; replace H := Option.bind_eq_some_iff.mp H; obtain ⟨⟨t318, t319⟩, A50, H⟩ := H; replace H : ((impl_ReadBatch.f k t318).bind fun bt320 => ((spec_BatchOk.f k t313 t314).bind fun t326 => (if (t319 == t326) = true then ((impl_BatchOk.f k t313 t314).bind fun t327 => (if (t327 == t319) = true then (if t319 = true then (if bt320.2.2 = true then ((laws_sameBatch.f k bt320.1 bt320.2.1 t313 t314).bind fun t328 => (some t328)) else (none)) else (some true)) else (none))) else (none)))) = some r := H; have A5 := Aside0.mk A50; clear A50; replace H := Option.bind_eq_some_iff.mp H; obtain ⟨⟨t320, t321, t324⟩, A60, H⟩ := H; replace H : ((spec_BatchOk.f k t313 t314).bind fun t326 => (if (t319 == t326) = true then ((impl_BatchOk.f k t313 t314).bind fun t327 => (if (t327 == t319) = true then (if t319 = true then (if t324 = true then ((laws_sameBatch.f k t320 t321 t313 t314).bind fun t328 => (some t328)) else (none)) else (some true)) else (none))) else (none))) = some r := H; have A6 := Aside0.mk A60; clear A60; replace H := Option.bind_eq_some_iff.mp H; obtain ⟨t326, A70, H⟩ := H; replace H : (if (t319 == t326) = true then ((impl_BatchOk.f k t313 t314).bind fun t327 => (if (t327 == t319) = true then (if t319 = true then (if t324 = true then ((laws_sameBatch.f k t320 t321 t313 t314).bind fun t328 => (some t328)) else (none)) else (some true)) else (none))) else (none)) = some r := H; have A7 := Aside0.mk A70; clear A70; by_cases c8 : (t319 == t326) = true
   · rw [if_pos c8] at H; have c8b0 : (t319 == t326) = true := c8
     (try (have c8b1 : decide (t319 = t326) = true := by simpa using c8))
     (try (have c8b2 : (t319 == t326) = true := by simpa using c8))
     clear c8; replace H := Option.bind_eq_some_iff.mp H; obtain ⟨t327, A90, H⟩ := H; replace H : (if (t327 == t319) = true then (if t319 = true then (if t324 = true then ((laws_sameBatch.f k t320 t321 t313 t314).bind fun t328 => (some t328)) else (none)) else (some true)) else (none)) = some r := H; have A9 := Aside0.mk A90; clear A90; by_cases c10 : (t327 == t319) = true
     · rw [if_pos c10] at H; have c10b0 : (t327 == t319) = true := c10
       (try (have c10b1 : decide (t327 = t319) = true := by simpa using c10))
       (try (have c10b2 : (t327 == t319) = true := by simpa using c10))
       clear c10; by_cases c11 : t319 = true
       · subst c11; have H1 : (if t324 = true then ((laws_sameBatch.f k t320 t321 t313 t314).bind fun t328 => (some t328)) else (none)) = some r := by rw [if_pos rfl] at H; exact H
         clear H; have H := H1; clear H1; by_cases c12 : t324 = true
         · subst c12; have H1 : ((laws_sameBatch.f k t320 t321 t313 t314).bind fun t328 => (some t328)) = some r := by rw [if_pos rfl] at H; exact H
           clear H; have H := H1; clear H1; replace H := Option.bind_eq_some_iff.mp H; obtain ⟨t328, A130, H⟩ := H; replace H : (some t328) = some r := H; have A13 := Aside0.mk A130; clear A130; obtain rfl := Option.some.inj H; go_enter Try.func6, Try.ntmps6
           go_wp2_with (first | ((with_reducible refine gate_callee (f := 9) rfl ?_); refine goesL_ (some 9) rfl rfl Try.func9 (by kernel_rfl) rfl #[.slice A0 l0.length c0] rfl t5_ ?_; (with_reducible refine (laws_big.calls _ _ l0 false _ ?side1 ?side2 A2.out).mono ?_); (case side1 => repeat (first | exact HR0.out | (with_reducible refine Kd.C_alloc ?_ _) | (with_reducible refine Kd.C_drewN ?_ _) | (with_reducible refine Kd.C_drew ?_))); (case side2 => exact HC0.out); rintro e w' ⟨rfl, ⟨nd, rfl⟩⟩; refine ⟨_, rfl, ?_⟩) | ((with_reducible refine gate_callee (f := 25) rfl ?_); refine goesL_ (some 11) rfl rfl Try.func25 (by kernel_rfl) rfl #[.slice A0 l0.length c0] rfl t5_ ?_; (with_reducible refine (spec_DrawBatchText.calls k _ _ l0 t313 t314 _ ?side1 ?side2 A4.out).mono ?_); (case side1 => repeat (first | exact HR0.out | (with_reducible refine Kd.C_alloc ?_ _) | (with_reducible refine Kd.C_drewN ?_ _) | (with_reducible refine Kd.C_drew ?_))); (case side2 => exact HC0.out); rintro e w14 ⟨v315, rfl, ho0, hb⟩; refine ⟨_, rfl, ?_⟩; have HO316 := Aside0.mk (Kd.R_lower ho0 (below_size t1_)); replace HB := bS t1_ hb; (try clear hb); (try clear ho0)) | ((with_reducible refine gate_dst (N := 3) rfl ?_); refine boxE (N := 3) (cs := #[.int .i64 0, .slice none 0 0]) (t := 46) (h := ?_); intro gb317 hg w15 hbox hb; replace HO316 := Aside0.mk (Kd.R_below t43_ hb); have BK317 := Aside0.mk (hbox); have GW317 := Aside0.mk ((t14_ : w.heap.size ≤ gb317)); have GE317 := GW317; replace HB := bS t1_ hb; clear hb hbox hg; obtain ⟨hcz16_0, hcz16_1, hfz16_0, hfz16_1⟩ := ba2 BK317; obtain ⟨Ao17, co17, eo17⟩ := Kd.R_slice HO316.out; subst eo17) | ((with_reducible refine gate_callee (f := 26) rfl ?_); refine goesL_ (some 14) rfl rfl Try.func26 (by kernel_rfl) rfl #[.agg #[.int .i64 t313, .slice Ao17 t314.length co17]] rfl t5_ ?_; (with_reducible refine (impl_BatchText.calls k t313 _ _ t314 t318 true _ ?side1 ?side2 A5.out).mono ?_); (case side1 => refine (Kd.R_reads' (e := 80) (base := w.heap.size) (ok := fun k_ => True) (n := t314.length) (c := co17) ?_).2.2; exact (by (with_reducible repeat (first | apply Kd.R_alloc | apply Kd.R_drewN | apply Kd.R_drew)); exact (Kd.R_mono (Kd.R_far (p := ⟨gb317, 1, none⟩) (Kd.R_far (p := ⟨gb317, 0, none⟩) (Kd.R_types HO316.out BK317.out (by decide)) (fun _ hk => hk.2) (.int .i64 t313)) (fun _ hk => hk.2) (.slice Ao17 t314.length co17)) (fun _ h_ => h_.1)))); (case side2 => exact (Kd.R_reads' HO316.out).2.1); rintro e w18 ⟨rfl, hb⟩; refine ⟨_, rfl, ?_⟩; replace HO316 := Aside0.mk (Kd.R_below (by (with_reducible repeat (first | apply Kd.R_alloc | apply Kd.R_drewN | apply Kd.R_drew)); exact (Kd.R_mono (Kd.R_far (p := ⟨gb317, 1, none⟩) (Kd.R_far (p := ⟨gb317, 0, none⟩) (Kd.R_types HO316.out BK317.out (by decide)) (fun _ hk => hk.2) (.int .i64 t313)) (fun _ hk => hk.2) (.slice Ao17 t314.length co17)) (fun _ h_ => h_.1))) hb); replace BK317 := Aside0.mk (blk_below (g := gb317) (o := .cells #[.int .i64 t313, .slice Ao17 t314.length co17] 46 (0, 0)) (zQ2 BK317) hb); replace HB := bS t28_ hb; (try clear hb); (try clear hk)) | ((with_reducible refine gate_callee (f := 27) rfl ?_); refine goesL_ (some 19) rfl rfl Try.func27 (by kernel_rfl) rfl #[.string t318] rfl t5_ ?_; (with_reducible refine (impl_ReadBatch.calls k t318 t320 t321 true _ A6.out).mono ?_); rintro e w19 ⟨v322, rfl, ho0, hb⟩; refine ⟨_, rfl, ?_⟩; have HO323 := Aside0.mk (Kd.R_lower (Kd.R_new' ho0 (Kd.R_lt t43_)) (below_size t28_)); replace HO316 := Aside0.mk (Kd.R_elder' t43_ (Kd.R_base ho0) hb); replace BK317 := bkN BK317 hb; replace HB := bS t28_ hb; (try clear hb); (try clear ho0)) | ((with_reducible refine gate_dst (N := 6) rfl ?_); refine boxE (N := 6) (cs := #[.int .i64 0, .slice none 0 0]) (t := 46) (h := ?_); intro gb325 hg w20 hbox hb; replace HO316 := Aside0.mk (Kd.R_below t43_ hb); replace HO323 := Aside0.mk (Kd.R_below t51_ hb); have BK325 := Aside0.mk (hbox); have GW325 := Aside0.mk ((t47_ : w.heap.size ≤ gb325)); have GE325 := GW325; replace HB := bS t28_ hb; have NB317_325 := nbL BK317 hg; have NB325_317 := nbG BK317 hg; replace BK317 := bkN BK317 hb; clear hb hbox hg; have hnb21 := NB325_317.out; have hnc21 := NB317_325.out; obtain ⟨hcz22_0, hcz22_1, hfz22_0, hfz22_1⟩ := ba2 BK325; obtain ⟨Ao23, co23, eo23⟩ := Kd.R_slice HO323.out; subst eo23; obtain ⟨hcz24_0, hcz24_1, hfz24_0, hfz24_1⟩ := ba2 BK317) | ((with_reducible refine gate_callee (f := 28) rfl ?_); refine goesL_ (some 24) rfl rfl Try.func28 (by kernel_rfl) rfl #[.agg #[.int .i64 t313, .slice Ao17 t314.length co17]] rfl t5_ ?_; (with_reducible refine (spec_BatchOk.calls k t313 _ _ t314 t326 _ ?side1 ?side2 A7.out).mono ?_); (case side1 => refine (Kd.R_reads' (e := 80) (base := w.heap.size) (ok := fun k_ => (True ∧ some k_ ≠ (.slice Ao23 t321.length co23 : Value).ownBlock)) (n := t314.length) (c := co17) ?_).2.2; exact (by (with_reducible repeat (first | apply Kd.R_alloc | apply Kd.R_drewN | apply Kd.R_drew)); exact (Kd.R_mono (Kd.R_far (p := ⟨gb325, 1, none⟩) (Kd.R_far (p := ⟨gb325, 0, none⟩) (Kd.R_types HO316.out BK325.out (by decide)) (fun _ hk => hk.2) (.int .i64 t320)) (fun _ hk => hk.2) (.slice Ao23 t321.length co23)) (fun _ h_ => h_.1)))); (case side2 => exact (Kd.R_reads' HO316.out).2.1); rintro e w25 ⟨rfl, hb⟩; refine ⟨_, rfl, ?_⟩; replace HO316 := Aside0.mk (Kd.R_below (by (with_reducible repeat (first | apply Kd.R_alloc | apply Kd.R_drewN | apply Kd.R_drew)); exact (Kd.R_mono (Kd.R_far (p := ⟨gb325, 1, none⟩) (Kd.R_far (p := ⟨gb325, 0, none⟩) (Kd.R_types HO316.out BK325.out (by decide)) (fun _ hk => hk.2) (.int .i64 t320)) (fun _ hk => hk.2) (.slice Ao23 t321.length co23)) (fun _ h_ => h_.1))) hb); replace HO323 := Aside0.mk (Kd.R_below (by (with_reducible repeat (first | apply Kd.R_alloc | apply Kd.R_drewN | apply Kd.R_drew)); exact (Kd.R_mono (Kd.R_far (p := ⟨gb325, 1, none⟩) (Kd.R_far (p := ⟨gb325, 0, none⟩) (Kd.R_types HO323.out BK325.out (by decide)) (fun _ hk => hk.2) (.int .i64 t320)) (fun _ hk => hk.2) (.slice Ao23 t321.length co23)) (fun _ h_ => h_.1))) hb); replace BK317 := Aside0.mk (blk_below (g := gb317) (o := .cells #[.int .i64 t313, .slice Ao17 t314.length co17] 46 (0, 0)) (zF2 BK317 NB317_325 NB317_325) hb); replace BK325 := Aside0.mk (blk_below (g := gb325) (o := .cells #[.int .i64 t320, .slice Ao23 t321.length co23] 46 (0, 0)) (zQ2 BK325) hb); replace HB := bS t36_ hb; (try clear hb); (try clear hk); obtain ⟨hcz26_0, hcz26_1, hfz26_0, hfz26_1⟩ := ba2 BK317) | (go_at_call 29; (with_reducible refine (impl_BatchOk.calls k t313 _ _ t314 t327 _ ?side1 ?side2 A9.out).mono ?_); (case side1 => repeat (first | exact (Kd.R_reads' HO316.out).2.2 | (with_reducible refine Kd.C_alloc ?_ _) | (with_reducible refine Kd.C_drewN ?_ _) | (with_reducible refine Kd.C_drew ?_))); (case side2 => exact (Kd.R_reads' HO316.out).2.1); rintro e w27 ⟨rfl, hb⟩; replace HO316 := Aside0.mk (Kd.R_below t43_ hb); replace HO323 := Aside0.mk (Kd.R_below t51_ hb); replace BK317 := bkN BK317 hb; replace BK325 := bkN BK325 hb; replace HB := bS t36_ hb; (try clear hb); (try clear hk); obtain ⟨hcz28_0, hcz28_1, hfz28_0, hfz28_1⟩ := ba2 BK325; obtain ⟨hcz29_0, hcz29_1, hfz29_0, hfz29_1⟩ := ba2 BK317) | (go_at_call 30; (with_reducible refine (laws_sameBatch.calls k t320 _ _ t321 t313 _ _ t314 t328 _ ?side1 ?side2 ?side3 ?side4 A13.out).mono ?_); (case side1 => repeat (first | exact (Kd.R_reads' HO323.out).2.2 | (with_reducible refine Kd.C_alloc ?_ _) | (with_reducible refine Kd.C_drewN ?_ _) | (with_reducible refine Kd.C_drew ?_))); (case side2 => exact (Kd.R_reads' HO323.out).2.1); (case side3 => repeat (first | exact (Kd.R_reads' HO316.out).2.2 | (with_reducible refine Kd.C_alloc ?_ _) | (with_reducible refine Kd.C_drewN ?_ _) | (with_reducible refine Kd.C_drew ?_))); (case side4 => exact (Kd.R_reads' HO316.out).2.1); rintro e w30 ⟨rfl, hb⟩; replace HO316 := Aside0.mk (Kd.R_below t43_ hb); replace HO323 := Aside0.mk (Kd.R_below t51_ hb); replace BK317 := bkN BK317 hb; replace BK325 := bkN BK325 hb; replace HB := bS t36_ hb; (try clear hb); (try clear hk)))
           go_ret; exact ⟨by first | rfl | (simp [errW_none, errW_some] <;> rfl) | (simp [*, errW_none, errW_some] <;> rfl), t36_⟩
         · replace c12 := Bool.eq_false_iff.mpr c12; subst c12; have H1 : (none) = some r := by rw [if_neg (show ¬ (false = true) by decide)] at H; exact H
           clear H; have H := H1; clear H1; exact absurd H (by simp)
       · replace c11 := Bool.eq_false_iff.mpr c11; subst c11; have H1 : (some true) = some r := by rw [if_neg (show ¬ (false = true) by decide)] at H; exact H
         clear H; have H := H1; clear H1; obtain rfl := Option.some.inj H; go_enter Try.func6, Try.ntmps6
         go_wp2_with (first | ((with_reducible refine gate_callee (f := 9) rfl ?_); refine goesL_ (some 9) rfl rfl Try.func9 (by kernel_rfl) rfl #[.slice A0 l0.length c0] rfl t5_ ?_; (with_reducible refine (laws_big.calls _ _ l0 false _ ?side1 ?side2 A2.out).mono ?_); (case side1 => repeat (first | exact HR0.out | (with_reducible refine Kd.C_alloc ?_ _) | (with_reducible refine Kd.C_drewN ?_ _) | (with_reducible refine Kd.C_drew ?_))); (case side2 => exact HC0.out); rintro e w' ⟨rfl, ⟨nd, rfl⟩⟩; refine ⟨_, rfl, ?_⟩) | ((with_reducible refine gate_callee (f := 25) rfl ?_); refine goesL_ (some 11) rfl rfl Try.func25 (by kernel_rfl) rfl #[.slice A0 l0.length c0] rfl t5_ ?_; (with_reducible refine (spec_DrawBatchText.calls k _ _ l0 t313 t314 _ ?side1 ?side2 A4.out).mono ?_); (case side1 => repeat (first | exact HR0.out | (with_reducible refine Kd.C_alloc ?_ _) | (with_reducible refine Kd.C_drewN ?_ _) | (with_reducible refine Kd.C_drew ?_))); (case side2 => exact HC0.out); rintro e w31 ⟨v315, rfl, ho0, hb⟩; refine ⟨_, rfl, ?_⟩; have HO316 := Aside0.mk (Kd.R_lower ho0 (below_size t1_)); replace HB := bS t1_ hb; (try clear hb); (try clear ho0)) | ((with_reducible refine gate_dst (N := 3) rfl ?_); refine boxE (N := 3) (cs := #[.int .i64 0, .slice none 0 0]) (t := 46) (h := ?_); intro gb317 hg w32 hbox hb; replace HO316 := Aside0.mk (Kd.R_below t43_ hb); have BK317 := Aside0.mk (hbox); have GW317 := Aside0.mk ((t14_ : w.heap.size ≤ gb317)); have GE317 := GW317; replace HB := bS t1_ hb; clear hb hbox hg; obtain ⟨hcz33_0, hcz33_1, hfz33_0, hfz33_1⟩ := ba2 BK317; obtain ⟨Ao34, co34, eo34⟩ := Kd.R_slice HO316.out; subst eo34) | ((with_reducible refine gate_callee (f := 26) rfl ?_); refine goesL_ (some 14) rfl rfl Try.func26 (by kernel_rfl) rfl #[.agg #[.int .i64 t313, .slice Ao34 t314.length co34]] rfl t5_ ?_; (with_reducible refine (impl_BatchText.calls k t313 _ _ t314 t318 false _ ?side1 ?side2 A5.out).mono ?_); (case side1 => refine (Kd.R_reads' (e := 80) (base := w.heap.size) (ok := fun k_ => True) (n := t314.length) (c := co34) ?_).2.2; exact (by (with_reducible repeat (first | apply Kd.R_alloc | apply Kd.R_drewN | apply Kd.R_drew)); exact (Kd.R_mono (Kd.R_far (p := ⟨gb317, 1, none⟩) (Kd.R_far (p := ⟨gb317, 0, none⟩) (Kd.R_types HO316.out BK317.out (by decide)) (fun _ hk => hk.2) (.int .i64 t313)) (fun _ hk => hk.2) (.slice Ao34 t314.length co34)) (fun _ h_ => h_.1)))); (case side2 => exact (Kd.R_reads' HO316.out).2.1); rintro e w35 ⟨rfl, hb⟩; refine ⟨_, rfl, ?_⟩; replace HO316 := Aside0.mk (Kd.R_below (by (with_reducible repeat (first | apply Kd.R_alloc | apply Kd.R_drewN | apply Kd.R_drew)); exact (Kd.R_mono (Kd.R_far (p := ⟨gb317, 1, none⟩) (Kd.R_far (p := ⟨gb317, 0, none⟩) (Kd.R_types HO316.out BK317.out (by decide)) (fun _ hk => hk.2) (.int .i64 t313)) (fun _ hk => hk.2) (.slice Ao34 t314.length co34)) (fun _ h_ => h_.1))) hb); replace BK317 := Aside0.mk (blk_below (g := gb317) (o := .cells #[.int .i64 t313, .slice Ao34 t314.length co34] 46 (0, 0)) (zQ2 BK317) hb); replace HB := bS t28_ hb; (try clear hb); (try clear hk)) | ((with_reducible refine gate_callee (f := 27) rfl ?_); refine goesL_ (some 19) rfl rfl Try.func27 (by kernel_rfl) rfl #[.string t318] rfl t5_ ?_; (with_reducible refine (impl_ReadBatch.calls k t318 t320 t321 t324 _ A6.out).mono ?_); rintro e w36 ⟨v322, rfl, ho0, hb⟩; refine ⟨_, rfl, ?_⟩; have HO323 := Aside0.mk (Kd.R_lower (Kd.R_new' ho0 (Kd.R_lt t43_)) (below_size t28_)); replace HO316 := Aside0.mk (Kd.R_elder' t43_ (Kd.R_base ho0) hb); replace BK317 := bkN BK317 hb; replace HB := bS t28_ hb; (try clear hb); (try clear ho0)) | ((with_reducible refine gate_dst (N := 6) rfl ?_); refine boxE (N := 6) (cs := #[.int .i64 0, .slice none 0 0]) (t := 46) (h := ?_); intro gb325 hg w37 hbox hb; replace HO316 := Aside0.mk (Kd.R_below t43_ hb); replace HO323 := Aside0.mk (Kd.R_below t51_ hb); have BK325 := Aside0.mk (hbox); have GW325 := Aside0.mk ((t47_ : w.heap.size ≤ gb325)); have GE325 := GW325; replace HB := bS t28_ hb; have NB317_325 := nbL BK317 hg; have NB325_317 := nbG BK317 hg; replace BK317 := bkN BK317 hb; clear hb hbox hg; have hnb38 := NB325_317.out; have hnc38 := NB317_325.out; obtain ⟨hcz39_0, hcz39_1, hfz39_0, hfz39_1⟩ := ba2 BK325; obtain ⟨Ao40, co40, eo40⟩ := Kd.R_slice HO323.out; subst eo40; obtain ⟨hcz41_0, hcz41_1, hfz41_0, hfz41_1⟩ := ba2 BK317) | ((with_reducible refine gate_callee (f := 28) rfl ?_); refine goesL_ (some 24) rfl rfl Try.func28 (by kernel_rfl) rfl #[.agg #[.int .i64 t313, .slice Ao34 t314.length co34]] rfl t5_ ?_; (with_reducible refine (spec_BatchOk.calls k t313 _ _ t314 t326 _ ?side1 ?side2 A7.out).mono ?_); (case side1 => refine (Kd.R_reads' (e := 80) (base := w.heap.size) (ok := fun k_ => (True ∧ some k_ ≠ (.slice Ao40 t321.length co40 : Value).ownBlock)) (n := t314.length) (c := co34) ?_).2.2; exact (by (with_reducible repeat (first | apply Kd.R_alloc | apply Kd.R_drewN | apply Kd.R_drew)); exact (Kd.R_mono (Kd.R_far (p := ⟨gb325, 1, none⟩) (Kd.R_far (p := ⟨gb325, 0, none⟩) (Kd.R_types HO316.out BK325.out (by decide)) (fun _ hk => hk.2) (.int .i64 t320)) (fun _ hk => hk.2) (.slice Ao40 t321.length co40)) (fun _ h_ => h_.1)))); (case side2 => exact (Kd.R_reads' HO316.out).2.1); rintro e w42 ⟨rfl, hb⟩; refine ⟨_, rfl, ?_⟩; replace HO316 := Aside0.mk (Kd.R_below (by (with_reducible repeat (first | apply Kd.R_alloc | apply Kd.R_drewN | apply Kd.R_drew)); exact (Kd.R_mono (Kd.R_far (p := ⟨gb325, 1, none⟩) (Kd.R_far (p := ⟨gb325, 0, none⟩) (Kd.R_types HO316.out BK325.out (by decide)) (fun _ hk => hk.2) (.int .i64 t320)) (fun _ hk => hk.2) (.slice Ao40 t321.length co40)) (fun _ h_ => h_.1))) hb); replace HO323 := Aside0.mk (Kd.R_below (by (with_reducible repeat (first | apply Kd.R_alloc | apply Kd.R_drewN | apply Kd.R_drew)); exact (Kd.R_mono (Kd.R_far (p := ⟨gb325, 1, none⟩) (Kd.R_far (p := ⟨gb325, 0, none⟩) (Kd.R_types HO323.out BK325.out (by decide)) (fun _ hk => hk.2) (.int .i64 t320)) (fun _ hk => hk.2) (.slice Ao40 t321.length co40)) (fun _ h_ => h_.1))) hb); replace BK317 := Aside0.mk (blk_below (g := gb317) (o := .cells #[.int .i64 t313, .slice Ao34 t314.length co34] 46 (0, 0)) (zF2 BK317 NB317_325 NB317_325) hb); replace BK325 := Aside0.mk (blk_below (g := gb325) (o := .cells #[.int .i64 t320, .slice Ao40 t321.length co40] 46 (0, 0)) (zQ2 BK325) hb); replace HB := bS t36_ hb; (try clear hb); (try clear hk); obtain ⟨hcz43_0, hcz43_1, hfz43_0, hfz43_1⟩ := ba2 BK317) | (go_at_call 29; (with_reducible refine (impl_BatchOk.calls k t313 _ _ t314 t327 _ ?side1 ?side2 A9.out).mono ?_); (case side1 => repeat (first | exact (Kd.R_reads' HO316.out).2.2 | (with_reducible refine Kd.C_alloc ?_ _) | (with_reducible refine Kd.C_drewN ?_ _) | (with_reducible refine Kd.C_drew ?_))); (case side2 => exact (Kd.R_reads' HO316.out).2.1); rintro e w44 ⟨rfl, hb⟩; replace HO316 := Aside0.mk (Kd.R_below t43_ hb); replace HO323 := Aside0.mk (Kd.R_below t51_ hb); replace BK317 := bkN BK317 hb; replace BK325 := bkN BK325 hb; replace HB := bS t36_ hb; (try clear hb); (try clear hk)))
         go_ret; exact ⟨by first | rfl | (simp [errW_none, errW_some] <;> rfl) | (simp [*, errW_none, errW_some] <;> rfl), t36_⟩
     · rw [if_neg c10] at H; exact absurd H (by simp)
   · rw [if_neg c8] at H; exact absurd H (by simp)

/-- THE ONE PURE STATEMENT of laws_FnBatches: yours. -/
def laws_FnBatches.Pure : Prop := ∀ (l0 : List Int), l0.length ≤ maxLen → l0.length * 1 ≤ 140737488351232 → (∀ x ∈ l0, (Lit.int .u8 x).wf = true) → ∃ k, laws_FnBatches.f k l0 = some true
theorem laws_FnBatches.walk (P : laws_FnBatches.Pure) (a0 : Option Addr) (len0 cap0 : Nat) (z0 : List Int) (w : World) (w0 : (a0 = none ∧ len0 = 0 ∧ cap0 = 0 ∧ z0 = []) ∨ ∃ x, a0 = some x ∧ len0 ≤ cap0 ∧ cap0 ≤ maxLen ∧ z0.length = cap0 ∧ (∀ i, i < z0.length → w.cell? (x.add i) = some (.int .u8 (z0.getD i 0))) ∧ ∀ n ∈ z0, (Lit.int .u8 n).wf = true) (y0 : len0 * 1 ≤ 140737488351232) :
 Calls Try.prog 6 #[.slice a0 len0 cap0] w fun e w' => e = .returned (.bool true) ∧ Below w.heap.size w w' := by
 obtain ⟨l0, rfl, hr0, hm0, hw0, hc0⟩ := ReadsInt.ofRowC w0; obtain ⟨k, h⟩ := P l0 hm0 y0 hw0; refine (laws_FnBatches.calls k _ _ l0 true w (Kd.C_of_reads (d := (0 : Int)) (h1 := fun _ => rfl) hr0) hc0 h).mono ?_
 rintro e w' ⟨rfl, hd⟩; exact ⟨rfl, hd⟩

end Go.Proofs.Ytpnncgfmihjlkaa.QFnBatches
