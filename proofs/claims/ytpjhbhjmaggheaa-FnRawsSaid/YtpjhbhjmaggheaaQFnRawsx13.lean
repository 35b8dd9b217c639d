-- By a program of this session, over the kit's print.
import Derived.Test.YtpjhbhjmaggheaaQFnRawsx0
import Derived.Test.YtpjhbhjmaggheaaQFnRawsx1
namespace Go.Proofs.Ytpjhbhjmaggheaa.QFnRaws
open Go.RowKit Go.Proofs.YtpjhbhjmaggheaaW.PrintWords Go.Proofs.YtpjhbhjmaggheaaW.PrintLast Go.Proofs.YtpjhbhjmaggheaaW.PrintMore
attribute [local go_sem] max2_int min2_int max_two min_two max_three min_three max_four min_four   -- for this text's walks alone
set_option linter.unusedVariables false
set_option linter.unusedSimpArgs false

attribute [local go_sem high] eqA71
/-! ### laws_sameDisk: function 40 -/
def laws_sameDisk.l0 : Nat → Int → List (S71) → List (S71) → Option (Bool)
 | 0, _, _, _ => none
 | k + 1, x5, x448000, x449000 => if x5 < (x448000.length : Int) then (if 0 ≤ x5 then (if x5 < (x449000.length : Int) then (if (!((((rd_T71 x448000 x5).f0).toList) == (((rd_T71 x449000 x5).f0).toList)) || (!((((rd_T71 x448000 x5).f1).toList) == (((rd_T71 x449000 x5).f1).toList)))) = true then (some false) else (laws_sameDisk.l0 k (wrap64 (x5 + 1)) x448000 x449000)) else (none)) else (none)) else (some true)
def laws_sameDisk.f (k : Nat) (l0_0 : List (S71)) (l1_0 : List (S71)) : Option (Bool) := if (l0_0.length : Int) = (l1_0.length : Int) then (laws_sameDisk.l0 k 0 l0_0 l1_0) else (some false)
theorem laws_sameDisk.mono_l : ∀ k, (∀ y0 y1 y2, LeO (laws_sameDisk.l0 k y0 y1 y2) (laws_sameDisk.l0 (k + 1) y0 y1 y2))
 | 0 => fun _ _ _ r h => by simp [laws_sameDisk.l0] at h
 | k + 1 => by
  have ih0 := laws_sameDisk.mono_l k
  · intro y0 y1 y2
    unfold laws_sameDisk.l0
    repeat' first
    | (with_reducible exact ih0 _ _ _)
    | (with_reducible exact LeO.refl _)
    | (with_reducible exact LeO.none _)
    | (with_reducible refine LeO.ite ?_ ?_)
    | (with_reducible refine LeO.bind ?_ (fun _ => ?_))
    | exact ih0 _ _ _
    | exact LeO.none _
    | refine LeO.ite ?_ ?_
    | refine LeO.bind ?_ (fun _ => ?_)
theorem laws_sameDisk.mono : ∀ a0 a1 k, LeO (laws_sameDisk.f k a0 a1) (laws_sameDisk.f (k + 1) a0 a1) := by
 intro a0 a1 k; have ih0 := laws_sameDisk.mono_l k
 unfold laws_sameDisk.f
 repeat' first
  | (with_reducible exact ih0 _ _ _)
  | (with_reducible exact LeO.refl _)
  | (with_reducible exact LeO.none _)
  | (with_reducible refine LeO.ite ?_ ?_)
  | (with_reducible refine LeO.bind ?_ (fun _ => ?_))
  | exact ih0 _ _ _
  | exact LeO.none _
  | refine LeO.ite ?_ ?_
  | refine LeO.bind ?_ (fun _ => ?_)
set_option maxHeartbeats 8000000 in
set_option maxRecDepth 100000 in
theorem laws_sameDisk.calls (k : Nat) (A0_0 : Option Addr) (c0_0 : Nat) (l0_0 : List (S71)) (A1_0 : Option Addr) (c1_0 : Nat) (l1_0 : List (S71)) (r : Bool) (w : World) (hr0_0 : Kd.C k71 w A0_0 l0_0.length l0_0) (hc0_0 : l0_0.length ≤ c0_0) (hr1_0 : Kd.C k71 w A1_0 l1_0.length l1_0) (hc1_0 : l1_0.length ≤ c1_0) (h : laws_sameDisk.f k l0_0 l1_0 = some r) :
 Calls Try.prog 40 #[.agg #[.slice A0_0 l0_0.length c0_0], .agg #[.slice A1_0 l1_0.length c1_0]] w fun e w' => e = .returned (.bool r) ∧ Below w.heap.size w w' := by
 have hu30 := Try.underlying30; have hu71 := Try.underlying71; have HR0_0 := Aside0.mk hr0_0; have HC0_0 := Aside0.mk hc0_0; clear hr0_0 hc0_0; have HR1_0 := Aside0.mk hr1_0; have HC1_0 := Aside0.mk hc1_0; clear hr1_0 hc1_0; have HB := Aside0.mk (Below.refl w.heap.size w); have H : (if (l0_0.length : Int) = (l1_0.length : Int) then (laws_sameDisk.l0 k 0 l0_0 l1_0) else (some false)) = some r := h; clear h; by_cases c3 : (l0_0.length : Int) = (l1_0.length : Int)
 · rw [if_pos c3] at H; have c3b0 : ((l0_0.length : Int) == (l1_0.length : Int)) = true := beq_iff_eq.mpr c3; have c3b1 : ((l0_0.length : Int) != (l1_0.length : Int)) = false := bne_eq_false_iff_eq.mpr c3; have c3b2 : (l0_0.length == l1_0.length) = true := by first | simpa using c3 | (simp at c3 ⊢; omega)
   clear c3; have H' := Aside0.mk H; clear H; go_enter Try.func40, Try.ntmps40
   go_wp2_with (first | ((with_reducible refine gate_dst (N := 2) rfl ?_); refine boxE (N := 2) (cs := #[.slice A0_0 l0_0.length c0_0]) (t := 30) (h := ?_); intro gb447 hg w4 hbox hb; have BK447 := Aside0.mk (hbox); have GW447 := Aside0.mk ((t4_ : w.heap.size ≤ gb447)); have GE447 := GW447; replace HB := bS t1_ hb; clear hb hbox hg) | ((with_reducible refine gate_dst (N := 3) rfl ?_); refine boxE (N := 3) (cs := #[.slice A1_0 l1_0.length c1_0]) (t := 30) (h := ?_); intro gb448 hg w5 hbox hb; have BK448 := Aside0.mk (hbox); have GW448 := Aside0.mk ((t35_ : w.heap.size ≤ gb448)); have GE448 := GW448; replace HB := bS t27_ hb; have NB447_448 := nbL BK447 hg; have NB448_447 := nbG BK447 hg; replace BK447 := bkN BK447 hb; clear hb hbox hg; have hnb6 := NB447_448.out; have hnc6 := NB448_447.out; obtain ⟨hcz7_0, hfz7_0⟩ := ba1 BK447; obtain ⟨hcz8_0, hfz8_0⟩ := ba1 BK448))
   repeat (go_quiet (first | ((with_reducible refine gate_dst (N := 2) rfl ?_); refine boxE (N := 2) (cs := #[.slice A0_0 l0_0.length c0_0]) (t := 30) (h := ?_); intro gb447 hg w4 hbox hb; have BK447 := Aside0.mk (hbox); have GW447 := Aside0.mk ((t4_ : w.heap.size ≤ gb447)); have GE447 := GW447; replace HB := bS t1_ hb; clear hb hbox hg) | ((with_reducible refine gate_dst (N := 3) rfl ?_); refine boxE (N := 3) (cs := #[.slice A1_0 l1_0.length c1_0]) (t := 30) (h := ?_); intro gb448 hg w5 hbox hb; have BK448 := Aside0.mk (hbox); have GW448 := Aside0.mk ((t35_ : w.heap.size ≤ gb448)); have GE448 := GW448; replace HB := bS t27_ hb; have NB447_448 := nbL BK447 hg; have NB448_447 := nbG BK447 hg; replace BK447 := bkN BK447 hb; clear hb hbox hg; have hnb6 := NB447_448.out; have hnc6 := NB448_447.out; obtain ⟨hcz7_0, hfz7_0⟩ := ba1 BK447; obtain ⟨hcz8_0, hfz8_0⟩ := ba1 BK448)); try go_wp2_with (first | ((with_reducible refine gate_dst (N := 2) rfl ?_); refine boxE (N := 2) (cs := #[.slice A0_0 l0_0.length c0_0]) (t := 30) (h := ?_); intro gb447 hg w4 hbox hb; have BK447 := Aside0.mk (hbox); have GW447 := Aside0.mk ((t4_ : w.heap.size ≤ gb447)); have GE447 := GW447; replace HB := bS t1_ hb; clear hb hbox hg) | ((with_reducible refine gate_dst (N := 3) rfl ?_); refine boxE (N := 3) (cs := #[.slice A1_0 l1_0.length c1_0]) (t := 30) (h := ?_); intro gb448 hg w5 hbox hb; have BK448 := Aside0.mk (hbox); have GW448 := Aside0.mk ((t35_ : w.heap.size ≤ gb448)); have GE448 := GW448; replace HB := bS t27_ hb; have NB447_448 := nbL BK447 hg; have NB448_447 := nbG BK447 hg; replace BK447 := bkN BK447 hb; clear hb hbox hg; have hnb6 := NB447_448.out; have hnc6 := NB448_447.out; obtain ⟨hcz7_0, hfz7_0⟩ := ba1 BK447; obtain ⟨hcz8_0, hfz8_0⟩ := ba1 BK448)))
   go_loopg [5] k (fun kq v5 w' => ∃ (x5_1 : Int), v5 = .int .i64 x5_1 ∧ Aside0 (laws_sameDisk.l0 kq x5_1 l0_0 l1_0 = some r) ∧ Aside0 (kq ≤ k) ∧ Aside0 (w'.heap[gb447]? = some (.cells #[(.slice A0_0 l0_0.length c0_0)] 30 (0, 0))) ∧ Aside0 (w'.heap[gb448]? = some (.cells #[(.slice A1_0 l1_0.length c1_0)] 30 (0, 0))) ∧ Aside0 (Below w.heap.size w w'))
   case atStart => exact ⟨(0), t28_, H', ⟨Nat.le_refl _⟩, ⟨zN BK447⟩, ⟨zN BK448⟩, ⟨t82_⟩⟩
   case round =>
    clear H'
    try clear c1
    try clear p2
    try clear c3
    try clear c3b0
    try clear c3b1
    try clear c3b2
    try clear c4
    try clear c6
    try clear hcz7_0
    try clear hcz8_0
    try clear hfz7_0
    try clear hfz8_0
    obtain ⟨x5_1, rfl, HA, HK1, BK447, BK448, HB⟩ := hrel
    cases gk with
    | zero => exact absurd HA.out (by simp [laws_sameDisk.l0])
    | succ k1 =>
     have H := HA.out; clear HA; simp only [laws_sameDisk.l0] at H; by_cases c9 : x5_1 < (l0_0.length : Int)
     · rw [if_pos c9] at H; have c9b0 : decide (x5_1 < (l0_0.length : Int)) = true := decide_eq_true c9; clear c9; by_cases c10 : 0 ≤ x5_1
       · rw [if_pos c10] at H; have c10b0 : decide (0 ≤ x5_1) = true := decide_eq_true c10; clear c10; by_cases c11 : x5_1 < (l1_0.length : Int)
         · rw [if_pos c11] at H; have c11b0 : decide (x5_1 < (l1_0.length : Int)) = true := decide_eq_true c11; clear c11; by_cases c12 : (!((((rd_T71 l0_0 x5_1).f0).toList) == (((rd_T71 l1_0 x5_1).f0).toList)) || (!((((rd_T71 l0_0 x5_1).f1).toList) == (((rd_T71 l1_0 x5_1).f1).toList)))) = true
           · rw [if_pos c12] at H; have c12b0 : (!((((rd_T71 l0_0 x5_1).f0).toList) == (((rd_T71 l1_0 x5_1).f0).toList)) || (!((((rd_T71 l0_0 x5_1).f1).toList) == (((rd_T71 l1_0 x5_1).f1).toList)))) = true := c12; clear c12; obtain rfl := Option.some.inj H; have hnb13 := NB447_448.out; have hnc13 := NB448_447.out; obtain ⟨hcz14_0, hfz14_0⟩ := ba1 BK447; have p449 : 0 ≤ (x5_1 : Int) := of_decide_eq_true t8_; have q449 : x5_1 < (l0_0.length : Int) := of_decide_eq_true t8_; obtain ⟨ad449, e449, hx449_0, hx449_1⟩ := at_T71 HR0_0.out x5_1 p449 q449
             cases e449
             replace hx449_0 := cW HB hx449_0; replace hx449_1 := cW HB hx449_1; replace p449 := eq_true p449; replace q449 := eq_true q449; obtain ⟨hcz15_0, hfz15_0⟩ := ba1 BK448; have p450 : 0 ≤ (x5_1 : Int) := of_decide_eq_true t8_; have q450 : x5_1 < (l1_0.length : Int) := of_decide_eq_true t8_; obtain ⟨ad450, e450, hx450_0, hx450_1⟩ := at_T71 HR1_0.out x5_1 p450 q450
             cases e450
             replace hx450_0 := cW HB hx450_0; replace hx450_1 := cW HB hx450_1; replace p450 := eq_true p450; replace q450 := eq_true q450; go_wp2
             repeat (go_quiet (fail); try go_wp2)
             go_ret; exact ⟨by first | rfl | (simp [errW_none, errW_some] <;> rfl) | (simp [*, errW_none, errW_some] <;> rfl), t82_⟩
           · rw [if_neg c12] at H; have c12b0 : (!((((rd_T71 l0_0 x5_1).f0).toList) == (((rd_T71 l1_0 x5_1).f0).toList)) || (!((((rd_T71 l0_0 x5_1).f1).toList) == (((rd_T71 l1_0 x5_1).f1).toList)))) = false := by simpa using c12
             clear c12; have H' := Aside0.mk H; clear H; have hnb16 := NB447_448.out; have hnc16 := NB448_447.out; obtain ⟨hcz17_0, hfz17_0⟩ := ba1 BK447; have p449 : 0 ≤ (x5_1 : Int) := of_decide_eq_true t8_; have q449 : x5_1 < (l0_0.length : Int) := of_decide_eq_true t8_; obtain ⟨ad449, e449, hx449_0, hx449_1⟩ := at_T71 HR0_0.out x5_1 p449 q449
             cases e449
             replace hx449_0 := cW HB hx449_0; replace hx449_1 := cW HB hx449_1; replace p449 := eq_true p449; replace q449 := eq_true q449; obtain ⟨hcz18_0, hfz18_0⟩ := ba1 BK448; have p450 : 0 ≤ (x5_1 : Int) := of_decide_eq_true t8_; have q450 : x5_1 < (l1_0.length : Int) := of_decide_eq_true t8_; obtain ⟨ad450, e450, hx450_0, hx450_1⟩ := at_T71 HR1_0.out x5_1 p450 q450
             cases e450
             replace hx450_0 := cW HB hx450_0; replace hx450_1 := cW HB hx450_1; replace p450 := eq_true p450; replace q450 := eq_true q450; go_wp2
             repeat (go_quiet (fail); try go_wp2)
             go_roundg k1
             case measure => have := HK1.out; omega
             case rel => exact ⟨(wrap64 (x5_1 + 1)), t28_, H', ⟨by have := HK1.out; omega⟩, ⟨zN BK447⟩, ⟨zN BK448⟩, ⟨t82_⟩⟩
         · rw [if_neg c11] at H; exact absurd H (by simp)
       · rw [if_neg c10] at H; exact absurd H (by simp)
     · rw [if_neg c9] at H; have c9b0 : decide (x5_1 < (l0_0.length : Int)) = false := decide_eq_false c9; clear c9; obtain rfl := Option.some.inj H; have hnb19 := NB447_448.out; have hnc19 := NB448_447.out; obtain ⟨hcz20_0, hfz20_0⟩ := ba1 BK447; go_wp2
       repeat (go_quiet (fail); try go_wp2)
       go_ret; exact ⟨by first | rfl | (simp [errW_none, errW_some] <;> rfl) | (simp [*, errW_none, errW_some] <;> rfl), t82_⟩
 · rw [if_neg c3] at H; have c3b0 : ((l0_0.length : Int) == (l1_0.length : Int)) = false := beq_eq_false_iff_ne.mpr c3; have c3b1 : ((l0_0.length : Int) != (l1_0.length : Int)) = true := bne_iff_ne.mpr c3; have c3b2 : (l0_0.length == l1_0.length) = false := by first | simpa using c3 | (simp at c3 ⊢; omega)
   obtain rfl := Option.some.inj H; go_enter Try.func40, Try.ntmps40
   go_wp2_with (first | ((with_reducible refine gate_dst (N := 2) rfl ?_); refine boxE (N := 2) (cs := #[.slice A0_0 l0_0.length c0_0]) (t := 30) (h := ?_); intro gb447 hg w21 hbox hb; have BK447 := Aside0.mk (hbox); have GW447 := Aside0.mk ((t4_ : w.heap.size ≤ gb447)); have GE447 := GW447; replace HB := bS t1_ hb; clear hb hbox hg) | ((with_reducible refine gate_dst (N := 3) rfl ?_); refine boxE (N := 3) (cs := #[.slice A1_0 l1_0.length c1_0]) (t := 30) (h := ?_); intro gb448 hg w22 hbox hb; have BK448 := Aside0.mk (hbox); have GW448 := Aside0.mk ((t35_ : w.heap.size ≤ gb448)); have GE448 := GW448; replace HB := bS t27_ hb; have NB447_448 := nbL BK447 hg; have NB448_447 := nbG BK447 hg; replace BK447 := bkN BK447 hb; clear hb hbox hg; have hnb23 := NB447_448.out; have hnc23 := NB448_447.out; obtain ⟨hcz24_0, hfz24_0⟩ := ba1 BK447; obtain ⟨hcz25_0, hfz25_0⟩ := ba1 BK448))
   repeat (go_quiet (first | ((with_reducible refine gate_dst (N := 2) rfl ?_); refine boxE (N := 2) (cs := #[.slice A0_0 l0_0.length c0_0]) (t := 30) (h := ?_); intro gb447 hg w21 hbox hb; have BK447 := Aside0.mk (hbox); have GW447 := Aside0.mk ((t4_ : w.heap.size ≤ gb447)); have GE447 := GW447; replace HB := bS t1_ hb; clear hb hbox hg) | ((with_reducible refine gate_dst (N := 3) rfl ?_); refine boxE (N := 3) (cs := #[.slice A1_0 l1_0.length c1_0]) (t := 30) (h := ?_); intro gb448 hg w22 hbox hb; have BK448 := Aside0.mk (hbox); have GW448 := Aside0.mk ((t35_ : w.heap.size ≤ gb448)); have GE448 := GW448; replace HB := bS t27_ hb; have NB447_448 := nbL BK447 hg; have NB448_447 := nbG BK447 hg; replace BK447 := bkN BK447 hb; clear hb hbox hg; have hnb23 := NB447_448.out; have hnc23 := NB448_447.out; obtain ⟨hcz24_0, hfz24_0⟩ := ba1 BK447; obtain ⟨hcz25_0, hfz25_0⟩ := ba1 BK448)); try go_wp2_with (first | ((with_reducible refine gate_dst (N := 2) rfl ?_); refine boxE (N := 2) (cs := #[.slice A0_0 l0_0.length c0_0]) (t := 30) (h := ?_); intro gb447 hg w21 hbox hb; have BK447 := Aside0.mk (hbox); have GW447 := Aside0.mk ((t4_ : w.heap.size ≤ gb447)); have GE447 := GW447; replace HB := bS t1_ hb; clear hb hbox hg) | ((with_reducible refine gate_dst (N := 3) rfl ?_); refine boxE (N := 3) (cs := #[.slice A1_0 l1_0.length c1_0]) (t := 30) (h := ?_); intro gb448 hg w22 hbox hb; have BK448 := Aside0.mk (hbox); have GW448 := Aside0.mk ((t35_ : w.heap.size ≤ gb448)); have GE448 := GW448; replace HB := bS t27_ hb; have NB447_448 := nbL BK447 hg; have NB448_447 := nbG BK447 hg; replace BK447 := bkN BK447 hb; clear hb hbox hg; have hnb23 := NB447_448.out; have hnc23 := NB448_447.out; obtain ⟨hcz24_0, hfz24_0⟩ := ba1 BK447; obtain ⟨hcz25_0, hfz25_0⟩ := ba1 BK448)))
   go_ret; exact ⟨by first | rfl | (simp [errW_none, errW_some] <;> rfl) | (simp [*, errW_none, errW_some] <;> rfl), t82_⟩

end Go.Proofs.Ytpjhbhjmaggheaa.QFnRaws
