-- By a program of this session, over the kit's print.
import Derived.Test.YtpjhbhjmaggheaaQFnExactCutRawsx0
namespace Go.Proofs.Ytpjhbhjmaggheaa.QFnExactCutRaws
open Go.RowKit Go.Proofs.YtpjhbhjmaggheaaW.PrintWords Go.Proofs.YtpjhbhjmaggheaaW.PrintLast Go.Proofs.YtpjhbhjmaggheaaW.PrintMore
attribute [local go_sem] max2_int min2_int max_two min_two max_three min_three max_four min_four   -- for this text's walks alone
set_option linter.unusedVariables false
set_option linter.unusedSimpArgs false

/-! ### spec_l03Put: function 79 -/
mutual
def spec_l03Put.l0 : Nat → Int → List (S71) → ByteArray → ByteArray → List (S71) → Option ((List (S71)))
 | 0, _, _, _, _, _ => none
 | k + 1, x6, x116000, x117000, x117001, x119000 => if x6 < (x116000.length : Int) then (if 0 ≤ x6 then (if (Op.bytesLess (((rd_T71 x116000 x6).f0).toList) x117000.toList) = true then (if x119000.length < 4398046511104 then (spec_l03Put.l0 k (wrap64 (x6 + 1)) x116000 x117000 x117001 (x119000 ++ [(⟨(rd_T71 x116000 x6).f0, (rd_T71 x116000 x6).f1⟩ : S71)])) else (none)) else (spec_l03Put.l0 k (wrap64 (x6 + 1)) x116000 x117000 x117001 x119000)) else (none)) else (if x119000.length < 4398046511104 then (spec_l03Put.l1 k 0 x116000 x117000 x117001 (x119000 ++ [(⟨x117000, x117001⟩ : S71)])) else (none))
def spec_l03Put.l1 : Nat → Int → List (S71) → ByteArray → ByteArray → List (S71) → Option ((List (S71)))
 | 0, _, _, _, _, _ => none
 | k + 1, x7, x116000, x117000, x117001, x119000 => if x7 < (x116000.length : Int) then (if 0 ≤ x7 then (if (Op.bytesLess x117000.toList (((rd_T71 x116000 x7).f0).toList)) = true then (if x119000.length < 4398046511104 then (spec_l03Put.l1 k (wrap64 (x7 + 1)) x116000 x117000 x117001 (x119000 ++ [(⟨(rd_T71 x116000 x7).f0, (rd_T71 x116000 x7).f1⟩ : S71)])) else (none)) else (spec_l03Put.l1 k (wrap64 (x7 + 1)) x116000 x117000 x117001 x119000)) else (none)) else (some x119000)
end
def spec_l03Put.f (k : Nat) (l0_0 : List (S71)) (a1_0 : ByteArray) (a1_1 : ByteArray) : Option ((List (S71))) := spec_l03Put.l0 k 0 l0_0 a1_0 a1_1 ([] : List (S71))
theorem spec_l03Put.mono_l : ∀ k, (∀ y0 y1 y2 y3 y4, LeO (spec_l03Put.l0 k y0 y1 y2 y3 y4) (spec_l03Put.l0 (k + 1) y0 y1 y2 y3 y4)) ∧ (∀ y0 y1 y2 y3 y4, LeO (spec_l03Put.l1 k y0 y1 y2 y3 y4) (spec_l03Put.l1 (k + 1) y0 y1 y2 y3 y4))
 | 0 => ⟨fun _ _ _ _ _ r h => by simp [spec_l03Put.l0] at h, fun _ _ _ _ _ r h => by simp [spec_l03Put.l1] at h⟩
 | k + 1 => by
  obtain ⟨ih0, ih1⟩ := spec_l03Put.mono_l k; refine ⟨?_, ?_⟩
  · intro y0 y1 y2 y3 y4
    unfold spec_l03Put.l0
    repeat' first
    | (with_reducible exact ih0 _ _ _ _ _)
    | (with_reducible exact ih1 _ _ _ _ _)
    | (with_reducible exact LeO.refl _)
    | (with_reducible exact LeO.none _)
    | (with_reducible refine LeO.ite ?_ ?_)
    | (with_reducible refine LeO.bind ?_ (fun _ => ?_))
    | exact ih0 _ _ _ _ _
    | exact ih1 _ _ _ _ _
    | exact LeO.none _
    | refine LeO.ite ?_ ?_
    | refine LeO.bind ?_ (fun _ => ?_)
  · intro y0 y1 y2 y3 y4
    unfold spec_l03Put.l1
    repeat' first
    | (with_reducible exact ih0 _ _ _ _ _)
    | (with_reducible exact ih1 _ _ _ _ _)
    | (with_reducible exact LeO.refl _)
    | (with_reducible exact LeO.none _)
    | (with_reducible refine LeO.ite ?_ ?_)
    | (with_reducible refine LeO.bind ?_ (fun _ => ?_))
    | exact ih0 _ _ _ _ _
    | exact ih1 _ _ _ _ _
    | exact LeO.none _
    | refine LeO.ite ?_ ?_
    | refine LeO.bind ?_ (fun _ => ?_)
theorem spec_l03Put.mono : ∀ a0 a1 a2 k, LeO (spec_l03Put.f k a0 a1 a2) (spec_l03Put.f (k + 1) a0 a1 a2) := by
 intro a0 a1 a2 k; obtain ⟨ih0, ih1⟩ := spec_l03Put.mono_l k
 unfold spec_l03Put.f
 repeat' first
  | (with_reducible exact ih0 _ _ _ _ _)
  | (with_reducible exact ih1 _ _ _ _ _)
  | (with_reducible exact LeO.refl _)
  | (with_reducible exact LeO.none _)
  | (with_reducible refine LeO.ite ?_ ?_)
  | (with_reducible refine LeO.bind ?_ (fun _ => ?_))
  | exact ih0 _ _ _ _ _
  | exact ih1 _ _ _ _ _
  | exact LeO.none _
  | refine LeO.ite ?_ ?_
  | refine LeO.bind ?_ (fun _ => ?_)
def spec_l03Put.T5 : Bool × List (List Nat × List Nat) := (true, [([], []), ([0], [0]), ([], []), ([1, 2], [1, 2]), ([3], [3]), ([4], [4]), ([], []), ([6], [6]), ([5, 7], [5, 7])])
def spec_l03Put.B5 : List Nat := [0, 1, 0, 7, 15, 31, 0, 64, 255]
theorem spec_l03Put.tab5 : rtab .any (opsOf Try.f79 5) = spec_l03Put.T5 := by kernel_rfl
theorem spec_l03Put.bits5 : waitsOk spec_l03Put.T5.2 spec_l03Put.B5 = true := by kernel_rfl
def spec_l03Put.T6 : Bool × List (List Nat × List Nat) := (true, [([], []), ([0], [0]), ([], []), ([2], [2]), ([], []), ([3, 4], [3, 4]), ([5], [5]), ([6], [6]), ([1, 7], [1, 7]), ([0, 1, 2, 3, 4, 5, 6, 7, 8], []), ([9, 8, 8, 0, 1, 2, 3, 4, 5, 6, 7, 8], [8, 9])])
def spec_l03Put.B6 : List Nat := [0, 1, 0, 4, 0, 28, 60, 124, 255, 511, 1023]
theorem spec_l03Put.tab6 : rtab .any (opsOf Try.f79 6) = spec_l03Put.T6 := by kernel_rfl
theorem spec_l03Put.bits6 : waitsOk spec_l03Put.T6.2 spec_l03Put.B6 = true := by kernel_rfl
def spec_l03Put.T11 : Bool × List (List Nat × List Nat) := (true, [([], []), ([0], [0]), ([], []), ([1, 2], [1, 2]), ([3], [3]), ([4], [4]), ([], []), ([6], [6]), ([5, 7], [5, 7])])
def spec_l03Put.B11 : List Nat := [0, 1, 0, 7, 15, 31, 0, 64, 255]
theorem spec_l03Put.tab11 : rtab .any (opsOf Try.f79 11) = spec_l03Put.T11 := by kernel_rfl
theorem spec_l03Put.bits11 : waitsOk spec_l03Put.T11.2 spec_l03Put.B11 = true := by kernel_rfl
def spec_l03Put.T12 : Bool × List (List Nat × List Nat) := (true, [([], []), ([0], [0]), ([], []), ([2], [2]), ([], []), ([3, 4], [3, 4]), ([5], [5]), ([6], [6]), ([1, 7], [1, 7]), ([0, 1, 2, 3, 4, 5, 6, 7, 8], []), ([9, 8, 8, 0, 1, 2, 3, 4, 5, 6, 7, 8], [8, 9])])
def spec_l03Put.B12 : List Nat := [0, 1, 0, 4, 0, 28, 60, 124, 255, 511, 1023]
theorem spec_l03Put.tab12 : rtab .any (opsOf Try.f79 12) = spec_l03Put.T12 := by kernel_rfl
theorem spec_l03Put.bits12 : waitsOk spec_l03Put.T12.2 spec_l03Put.B12 = true := by kernel_rfl
set_option maxHeartbeats 8000000 in
set_option maxRecDepth 100000 in
theorem spec_l03Put.calls (k : Nat) (A0_0 : Option Addr) (c0_0 : Nat) (l0_0 : List (S71)) (a1_0 : ByteArray) (a1_1 : ByteArray) (r : List (S71)) (w : World) (hr0_0 : Kd.C k71 w A0_0 l0_0.length l0_0) (hc0_0 : l0_0.length ≤ c0_0) (h : spec_l03Put.f k l0_0 a1_0 a1_1 = some r) :
 Calls Try.prog 79 #[.agg #[.slice A0_0 l0_0.length c0_0], .agg #[.string a1_0, .string a1_1]] w fun e w' => ∃ v0_ : Value, e = .returned (.agg #[v0_]) ∧ Kd.R k71 71 w' w.heap.size (fun _ => True) v0_ r ∧ Below w.heap.size w w' := by
 have hu30 := Try.underlying30; have hu71 := Try.underlying71; have HR0_0 := Aside0.mk hr0_0; have HC0_0 := Aside0.mk hc0_0; clear hr0_0 hc0_0; have HB := Aside0.mk (Below.refl w.heap.size w); have H : (spec_l03Put.l0 k 0 l0_0 a1_0 a1_1 ([] : List (S71))) = some r := h; clear h; have H' := Aside0.mk H; clear H; go_enter Try.func79, Try.ntmps79
 go_wp2_with (first | ((with_reducible refine gate_dst (N := 2) rfl ?_); refine boxE (N := 2) (cs := #[.slice A0_0 l0_0.length c0_0]) (t := 30) (h := ?_); intro gb115 hg w3 hbox hb; have BK115 := Aside0.mk (hbox); have GW115 := Aside0.mk ((t3_ : w.heap.size ≤ gb115)); have GE115 := GW115; replace HB := bS t0_ hb; clear hb hbox hg) | ((with_reducible refine gate_dst (N := 3) rfl ?_); refine boxE (N := 3) (cs := #[.string a1_0, .string a1_1]) (t := 71) (h := ?_); intro gb116 hg w4 hbox hb; have BK116 := Aside0.mk (hbox); have GW116 := Aside0.mk ((by rw [hg]; exact (below_size (by repeat (first | (with_reducible first | exact HB.out | apply below_alloc | apply pw_below_drewN | apply below_drew1 | refine below_set ?_ GE115.out) | exact HB.out))) : w.heap.size ≤ gb116)); have GE116 := Aside0.mk ((by rw [hg]; exact (below_size (by repeat (first | (with_reducible first | exact HB.out | apply below_alloc | apply pw_below_drewN | apply below_drew1 | refine below_set ?_ GE115.out) | exact HB.out))) : w.heap.size ≤ gb116)); replace HB := Aside0.mk (below_step (by repeat (first | (with_reducible first | exact HB.out | apply below_alloc | apply pw_below_drewN | apply below_drew1 | refine below_set ?_ GE115.out) | exact HB.out)) hb); have NB115_116 := nbL BK115 hg; have NB116_115 := nbG BK115 hg; replace BK115 := bkN BK115 hb; clear hb hbox hg) | ((with_reducible refine gate_dst (N := 4) rfl ?_); refine boxE (N := 4) (cs := #[.slice none 0 0]) (t := 30) (h := ?_); intro gb117 hg w5 hbox hb; have BK117 := Aside0.mk (hbox); have GW117 := Aside0.mk ((by rw [hg]; exact (below_size (by repeat (first | (with_reducible first | exact HB.out | apply below_alloc | apply pw_below_drewN | apply below_drew1 | refine below_set ?_ GE115.out | refine below_set ?_ GE116.out) | exact HB.out))) : w.heap.size ≤ gb117)); have GE117 := Aside0.mk ((by rw [hg]; exact (below_size (by repeat (first | (with_reducible first | exact HB.out | apply below_alloc | apply pw_below_drewN | apply below_drew1 | refine below_set ?_ GE115.out | refine below_set ?_ GE116.out) | exact HB.out))) : w.heap.size ≤ gb117)); replace HB := Aside0.mk (below_step (by repeat (first | (with_reducible first | exact HB.out | apply below_alloc | apply pw_below_drewN | apply below_drew1 | refine below_set ?_ GE115.out | refine below_set ?_ GE116.out) | exact HB.out)) hb); have NB115_117 := nbL BK115 hg; have NB117_115 := nbG BK115 hg; replace BK115 := bkN BK115 hb; have NB116_117 := nbL BK116 hg; have NB117_116 := nbG BK116 hg; replace BK116 := bkN BK116 hb; clear hb hbox hg) | ((with_reducible refine gate_dst (N := 5) rfl ?_); refine boxE (N := 5) (cs := #[.slice none 0 0]) (t := 30) (h := ?_); intro gb118 hg w6 hbox hb; have BK118 := Aside0.mk (hbox); have GW118 := Aside0.mk ((by rw [hg]; exact (below_size (by repeat (first | (with_reducible first | exact HB.out | apply below_alloc | apply pw_below_drewN | apply below_drew1 | refine below_set ?_ GE115.out | refine below_set ?_ GE116.out | refine below_set ?_ GE117.out) | exact HB.out))) : w.heap.size ≤ gb118)); have GE118 := Aside0.mk ((by rw [hg]; exact (below_size (by repeat (first | (with_reducible first | exact HB.out | apply below_alloc | apply pw_below_drewN | apply below_drew1 | refine below_set ?_ GE115.out | refine below_set ?_ GE116.out | refine below_set ?_ GE117.out) | exact HB.out))) : w.heap.size ≤ gb118)); replace HB := Aside0.mk (below_step (by repeat (first | (with_reducible first | exact HB.out | apply below_alloc | apply pw_below_drewN | apply below_drew1 | refine below_set ?_ GE115.out | refine below_set ?_ GE116.out | refine below_set ?_ GE117.out) | exact HB.out)) hb); have NB115_118 := nbL BK115 hg; have NB118_115 := nbG BK115 hg; replace BK115 := bkN BK115 hb; have NB116_118 := nbL BK116 hg; have NB118_116 := nbG BK116 hg; replace BK116 := bkN BK116 hb; have NB117_118 := nbL BK117 hg; have NB118_117 := nbG BK117 hg; replace BK117 := bkN BK117 hb; clear hb hbox hg; have hnb7 := NB118_115.out; have hnc7 := NB115_118.out; have hnb8 := NB118_116.out; have hnc8 := NB116_118.out; have hnb9 := NB118_117.out; have hnc9 := NB117_118.out; obtain ⟨hcz10_0, hfz10_0⟩ := ba1 BK118))
 go_loopg [6] k (fun kq v6 w' => ∃ (x6_1 : Int) (x119000_1 : List (S71)) (u119000 : Value), v6 = .int .i64 x6_1 ∧ Aside0 (spec_l03Put.l0 kq x6_1 l0_0 a1_0 a1_1 x119000_1 = some r) ∧ Aside0 (kq ≤ k) ∧ Aside0 (Kd.R k71 71 w' w.heap.size (fun k_ => k_ ≠ gb116) u119000 x119000_1) ∧ Aside0 (w'.heap[gb115]? = some (.cells #[(.slice A0_0 l0_0.length c0_0)] 30 (0, 0))) ∧ Aside0 (w'.heap[gb116]? = some (.cells #[.string a1_0, .string a1_1] 71 (0, 0))) ∧ Aside0 (w'.heap[gb117]? = some (.cells #[(.slice none 0 0)] 30 (0, 0))) ∧ Aside0 (w'.heap[gb118]? = some (.cells #[u119000] 30 (0, 0))) ∧ Aside0 (Below w.heap.size w w'))
 case atStart => exact ⟨(0), (([] : List (S71))), (.slice none 0 0), t20_, H', ⟨Nat.le_refl _⟩, ⟨by first | exact Kd.R_nil _ _ _ _ _ | exact Kd.N_nil _ _ _ _ _ | exact Kd.V_nil _ _ _ _ _ | exact Kd.Q_nil _ _ _ _ _ | exact Kd.S_nil _ _ _ _ _⟩, ⟨by (with_reducible repeat (first | refine blk_drewN ?_ _ | refine blk_drew ?_ | refine blk_alloc ?_ _)); refine blk_far ?_ NB115_118.out _; (with_reducible repeat (first | refine blk_drewN ?_ _ | refine blk_drew ?_ | refine blk_alloc ?_ _)); exact BK115.out⟩, ⟨by (with_reducible repeat (first | refine blk_drewN ?_ _ | refine blk_drew ?_ | refine blk_alloc ?_ _)); refine blk_far ?_ NB116_118.out _; (with_reducible repeat (first | refine blk_drewN ?_ _ | refine blk_drew ?_ | refine blk_alloc ?_ _)); exact BK116.out⟩, ⟨by (with_reducible repeat (first | refine blk_drewN ?_ _ | refine blk_drew ?_ | refine blk_alloc ?_ _)); refine blk_far ?_ NB117_118.out _; (with_reducible repeat (first | refine blk_drewN ?_ _ | refine blk_drew ?_ | refine blk_alloc ?_ _)); exact BK117.out⟩, ⟨by (with_reducible repeat (first | refine blk_drewN ?_ _ | refine blk_drew ?_ | refine blk_alloc ?_ _)); refine blk_put (cs := #[.slice none 0 0]) ?_ 0 _ rfl; (with_reducible repeat (first | refine blk_drewN ?_ _ | refine blk_drew ?_ | refine blk_alloc ?_ _)); exact BK118.out⟩, ⟨t21_⟩⟩
 case round =>
  clear H'
  try clear p2
  try clear c7
  try clear c8
  try clear c9
  try clear hcz10_0
  try clear hfz10_0
  obtain ⟨x6_1, x119000_1, u119000, rfl, HA, HK1, HO_119000, BK115, BK116, BK117, BK118, HB⟩ := hrel
  cases gk with
  | zero => exact absurd HA.out (by simp [spec_l03Put.l0])
  | succ k1 =>
   have H := HA.out; clear HA; simp only [spec_l03Put.l0] at H; by_cases c11 : x6_1 < (l0_0.length : Int)
   · rw [if_pos c11] at H; have c11b0 : decide (x6_1 < (l0_0.length : Int)) = true := decide_eq_true c11; clear c11; by_cases c12 : 0 ≤ x6_1
     · rw [if_pos c12] at H; have c12b0 : decide (0 ≤ x6_1) = true := decide_eq_true c12; clear c12; by_cases c13 : (Op.bytesLess (((rd_T71 l0_0 x6_1).f0).toList) a1_0.toList) = true
       · rw [if_pos c13] at H; have c13b0 : (Op.bytesLess (((rd_T71 l0_0 x6_1).f0).toList) a1_0.toList) = true := c13; obtain ⟨c13b7, c13b6⟩ := bl_gtr_t c13b0; clear c13; by_cases c14 : x119000_1.length < 4398046511104
         · rw [if_pos c14] at H; have LMc14 := Aside0.mk c14; clear c14; obtain ⟨y121, hy121⟩ : ∃ y_ : List (S71), y_ = (x119000_1 ++ [(⟨(rd_T71 l0_0 x6_1).f0, (rd_T71 l0_0 x6_1).f1⟩ : S71)]) := ⟨_, rfl⟩; replace H : (spec_l03Put.l0 k1 (wrap64 (x6_1 + 1)) l0_0 a1_0 a1_1 y121) = some r := by first | (rw [hy121]; with_reducible exact H) | (have H2_ := (Option.bind_some _ _).symm.trans H; rw [hy121]; with_reducible exact H2_) | (have H2_ := (Option.bind_some _ _).symm.trans H; with_reducible exact H2_) | with_reducible exact H | (rw [hy121]; exact H) | exact H
           have Ny121 := Aside0.mk hy121; clear hy121; have H' := Aside0.mk H; clear H; have hnb15 := NB115_116.out; have hnc15 := NB116_115.out; have hnb16 := NB115_117.out; have hnc16 := NB117_115.out; have hnb17 := NB115_118.out; have hnc17 := NB118_115.out; obtain ⟨hcz18_0, hfz18_0⟩ := ba1 BK115
           try go_wp2
           replace HO_119000 := Aside0.mk (Kd.R_drew HO_119000.out); replace BK115 := Aside0.mk (blk_drew BK115.out); replace BK116 := Aside0.mk (blk_drew BK116.out); replace BK117 := Aside0.mk (blk_drew BK117.out); replace BK118 := Aside0.mk (blk_drew BK118.out); replace HB := Aside0.mk (below_drew1 HB.out); have p119 : 0 ≤ (x6_1 : Int) := of_decide_eq_true t7_; have q119 : x6_1 < (l0_0.length : Int) := of_decide_eq_true t7_; obtain ⟨ad119, e119, hx119_0, hx119_1⟩ := at_T71 HR0_0.out x6_1 p119 q119; have hw119_1 := hx119_1; have hw119_0 := hx119_0
           cases e119
           replace hx119_0 := cW HB hx119_0; replace hx119_1 := cW HB hx119_1; replace p119 := eq_true p119; replace q119 := eq_true q119; refine start_ (n := 9) (S := fun w' => w'.cell? ⟨gb115, 0, none⟩ = some (.slice (some ad119) l0_0.length c0_0) ∧ w'.cell? ⟨gb116, 0, none⟩ = some (.string a1_0) ∧ w'.cell? ⟨gb116, 1, none⟩ = some (.string a1_1) ∧ w'.cell? (ad119.add ((x6_1).toNat * 2)) = some (.string ((rd_T71 l0_0 x6_1).f0)) ∧ w'.cell? ⟨(ad119.add ((x6_1).toNat * 2)).block, (ad119.add ((x6_1).toNat * 2)).off + 1, none⟩ = some (.string ((rd_T71 l0_0 x6_1).f1))) (ds := []) #[false, false, false, false, false, false, false, false, false] (by kernel_rfl) rfl rfl ⟨bc0 BK115, bc0 BK116, bc1 BK116, ((HB.out.cell (World.block_lt_of_cell? w _ hw119_0)).trans hw119_0), ((HB.out.cell (World.block_lt_of_cell? w _ hw119_1)).trans hw119_1)⟩ (fun hHeld => ?_); refine with_tabW spec_l03Put.tab5 spec_l03Put.bits5 (fun HT_ HW_ => ?_)
           generalize wr.drew = w19 at HO_119000 BK115 BK116 BK117 BK118 HB hx119_0 hx119_1 hHeld ⊢; refine pure_ (i := 0) (N := some 16) (v := ?_) (a' := ?_) #[true, false, false, false, false, false, false, false, false] rfl rfl (any_of HT_.out (by kernel_rfl)) (fun _ _ _ h => h) (Or.inl ⟨by rfl, ?_⟩) ?_ ?_
           rotate_left
           · intro w'; go_simp; with_reducible rfl
           rotate_left
           · simp only [Act.put, ps1, ps2, ps3, i64_w, i32_w]; rfl
           refine pure_ (i := 2) (N := some 18) (v := ?_) (a' := ?_) #[true, false, true, false, false, false, false, false, false] rfl rfl (any_of HT_.out (by kernel_rfl)) (fun _ _ _ h => h) (Or.inl ⟨by rfl, ?_⟩) ?_ ?_
           rotate_left
           · intro w'; go_simp; with_reducible rfl
           rotate_left
           · simp only [Act.put, ps1, ps2, ps3, i64_w, i32_w]; rfl
           refine pure_ (i := 6) (N := some 22) (v := ?_) (a' := ?_) #[true, false, true, false, false, false, true, false, false] rfl rfl (any_of HT_.out (by kernel_rfl)) (fun _ _ _ h => h) (Or.inl ⟨by rfl, ?_⟩) ?_ ?_
           rotate_left
           · intro w'; go_simp; with_reducible rfl
           rotate_left
           · simp only [Act.put, ps1, ps2, ps3, i64_w, i32_w]; rfl
           refine take_ (i := 1) (N := some 17) (v := ?_) (a' := ?_) #[true, true, true, false, false, false, true, false, false] rfl rfl (take_ofW HT_.out HW_.out (by kernel_rfl)) (fun _ _ _ h => h) (Or.inl ⟨by rfl, ?_⟩) hHeld ?_ ?_
           rotate_left
           · rintro w' ⟨s0, s1, s2, s3, s4⟩; go_simp; with_reducible rfl
           rotate_left
           · simp only [Act.put, ps1, ps2, ps3, i64_w, i32_w]; rfl
           refine pure_ (i := 3) (N := some 19) (v := ?_) (a' := ?_) #[true, true, true, true, false, false, true, false, false] rfl rfl (any_of HT_.out (by kernel_rfl)) (fun _ _ _ h => h) (Or.inl ⟨by rfl, ?_⟩) ?_ ?_
           rotate_left
           · intro w'; go_simp; with_reducible rfl
           rotate_left
           · simp only [Act.put, ps1, ps2, ps3, i64_w, i32_w]; rfl
           refine pure_ (i := 4) (N := some 20) (v := ?_) (a' := ?_) #[true, true, true, true, true, false, true, false, false] rfl rfl (any_of HT_.out (by kernel_rfl)) (fun _ _ _ h => h) (Or.inl ⟨by rfl, ?_⟩) ?_ ?_
           rotate_left
           · intro w'; go_simp; with_reducible rfl
           rotate_left
           · simp only [Act.put, ps1, ps2, ps3, i64_w, i32_w]; rfl
           refine take_ (i := 5) (N := some 21) (v := ?_) (a' := ?_) #[true, true, true, true, true, true, true, false, false] rfl rfl (take_ofW HT_.out HW_.out (by kernel_rfl)) (fun _ _ _ h => h) (Or.inl ⟨by rfl, ?_⟩) hHeld ?_ ?_
           rotate_left
           · rintro w' ⟨s0, s1, s2, s3, s4⟩; go_simp; with_reducible rfl
           rotate_left
           · simp only [Act.put, ps1, ps2, ps3, i64_w, i32_w]; rfl
           refine take_ (i := 7) (N := some 23) (v := ?_) (a' := ?_) #[true, true, true, true, true, true, true, true, false] rfl rfl (take_ofW HT_.out HW_.out (by kernel_rfl)) (fun _ _ _ h => h) (Or.inl ⟨by rfl, ?_⟩) hHeld ?_ ?_
           rotate_left
           · rintro w' ⟨s0, s1, s2, s3, s4⟩; go_simp; with_reducible rfl
           rotate_left
           · simp only [Act.put, ps1, ps2, ps3, i64_w, i32_w]; rfl
           refine pure_ (i := 8) (N := some 24) (v := ?_) (a' := ?_) #[true, true, true, true, true, true, true, true, true] rfl rfl (any_of HT_.out (by kernel_rfl)) (fun _ _ _ h => h) (Or.inl ⟨by rfl, ?_⟩) ?_ ?_
           rotate_left
           · intro w'; go_simp; with_reducible rfl
           rotate_left
           · simp only [Act.put, ps1, ps2, ps3, i64_w, i32_w]; rfl
           refine done_ (done_of HT_.out (by kernel_rfl)) ?_
           try go_wp2
           replace HO_119000 := Aside0.mk (Kd.R_drew HO_119000.out); replace BK115 := Aside0.mk (blk_drew BK115.out); replace BK116 := Aside0.mk (blk_drew BK116.out); replace BK117 := Aside0.mk (blk_drew BK117.out); replace BK118 := Aside0.mk (blk_drew BK118.out); replace HB := Aside0.mk (below_drew1 HB.out); have p120 : 0 ≤ (x6_1 : Int) := of_decide_eq_true t7_; have q120 : x6_1 < (l0_0.length : Int) := of_decide_eq_true t7_; obtain ⟨ad120, e120, hx120_0, hx120_1⟩ := at_T71 HR0_0.out x6_1 p120 q120; have hw120_1 := hx120_1; have hw120_0 := hx120_0; obtain rfl : ad119 = ad120 := (by injection e120); replace hx120_0 := cW HB hx120_0; replace hx120_1 := cW HB hx120_1; replace p120 := eq_true p120; replace q120 := eq_true q120; refine start_ (n := 11) (S := fun w' => w'.cell? ⟨gb118, 0, none⟩ = some (u119000) ∧ w'.cell? ⟨gb115, 0, none⟩ = some (.slice (some ad119) l0_0.length c0_0) ∧ w'.cell? (ad119.add ((x6_1).toNat * 2)) = some (.string ((rd_T71 l0_0 x6_1).f0)) ∧ w'.cell? ⟨(ad119.add ((x6_1).toNat * 2)).block, (ad119.add ((x6_1).toNat * 2)).off + 1, none⟩ = some (.string ((rd_T71 l0_0 x6_1).f1))) (ds := [10]) #[false, false, false, false, false, false, false, false, false, false, false] (by kernel_rfl) rfl rfl ⟨bc0 BK118, bc0 BK115, ((HB.out.cell (World.block_lt_of_cell? w _ hw120_0)).trans hw120_0), ((HB.out.cell (World.block_lt_of_cell? w _ hw120_1)).trans hw120_1)⟩ (fun hHeld => ?_); refine with_tabW spec_l03Put.tab6 spec_l03Put.bits6 (fun HT_ HW_ => ?_)
           generalize w19.drew = w20 at HO_119000 BK115 BK116 BK117 BK118 HB hx120_0 hx120_1 hHeld ⊢; refine pure_ (i := 0) (N := some 25) (v := ?_) (a' := ?_) #[true, false, false, false, false, false, false, false, false, false, false] rfl rfl (any_of HT_.out (by kernel_rfl)) (fun _ _ _ h => h) (Or.inl ⟨by rfl, ?_⟩) ?_ ?_
           rotate_left
           · intro w'; go_simp; with_reducible rfl
           rotate_left
           · simp only [Act.put, ps1, ps2, ps3, i64_w, i32_w]; rfl
           refine pure_ (i := 2) (N := some 27) (v := ?_) (a' := ?_) #[true, false, true, false, false, false, false, false, false, false, false] rfl rfl (any_of HT_.out (by kernel_rfl)) (fun _ _ _ h => h) (Or.inl ⟨by rfl, ?_⟩) ?_ ?_
           rotate_left
           · intro w'; go_simp; with_reducible rfl
           rotate_left
           · simp only [Act.put, ps1, ps2, ps3, i64_w, i32_w]; rfl
           refine pure_ (i := 4) (N := some 29) (v := ?_) (a' := ?_) #[true, false, true, false, true, false, false, false, false, false, false] rfl rfl (any_of HT_.out (by kernel_rfl)) (fun _ _ _ h => h) (Or.inl ⟨by rfl, ?_⟩) ?_ ?_
           rotate_left
           · intro w'; go_simp; with_reducible rfl
           rotate_left
           · simp only [Act.put, ps1, ps2, ps3, i64_w, i32_w]; rfl
           refine take_ (i := 1) (N := some 26) (v := ?_) (a' := ?_) #[true, true, true, false, true, false, false, false, false, false, false] rfl rfl (take_ofW HT_.out HW_.out (by kernel_rfl)) (fun _ _ _ h => h) (Or.inl ⟨by rfl, ?_⟩) hHeld ?_ ?_
           rotate_left
           · rintro w' ⟨s0, s1, s2, s3⟩; go_simp; with_reducible rfl
           rotate_left
           · simp only [Act.put, ps1, ps2, ps3, i64_w, i32_w]; rfl
           refine take_ (i := 3) (N := some 28) (v := ?_) (a' := ?_) #[true, true, true, true, true, false, false, false, false, false, false] rfl rfl (take_ofW HT_.out HW_.out (by kernel_rfl)) (fun _ _ _ h => h) (Or.inl ⟨by rfl, ?_⟩) hHeld ?_ ?_
           rotate_left
           · rintro w' ⟨s0, s1, s2, s3⟩; go_simp; with_reducible rfl
           rotate_left
           · simp only [Act.put, ps1, ps2, ps3, i64_w, i32_w]; rfl
           refine pure_ (i := 5) (N := some 30) (v := ?_) (a' := ?_) #[true, true, true, true, true, true, false, false, false, false, false] rfl rfl (any_of HT_.out (by kernel_rfl)) (fun _ _ _ h => h) (Or.inl ⟨by rfl, ?_⟩) ?_ ?_
           rotate_left
           · intro w'; go_simp; with_reducible rfl
           rotate_left
           · simp only [Act.put, ps1, ps2, ps3, i64_w, i32_w]; rfl
           refine take_ (i := 6) (N := some 31) (v := ?_) (a' := ?_) #[true, true, true, true, true, true, true, false, false, false, false] rfl rfl (take_ofW HT_.out HW_.out (by kernel_rfl)) (fun _ _ _ h => h) (Or.inl ⟨by rfl, ?_⟩) hHeld ?_ ?_
           rotate_left
           · rintro w' ⟨s0, s1, s2, s3⟩; go_simp; with_reducible rfl
           rotate_left
           · simp only [Act.put, ps1, ps2, ps3, i64_w, i32_w]; rfl
           refine one_ (i := 7) (N := some 32) #[true, true, true, true, true, true, true, true, false, false, false] rfl rfl (one_of HT_.out (by kernel_rfl)) (by decide) (fun K hK => ?_)
           refine value_ (w1 := ?_) (v := ?_) (by rfl) rfl ?_ ?_
           rotate_left 2
           · go_simp
             constructor
             · rfl
             · rfl
           refine hK.out _ _ ⟨(blk_cell (blk_alloc BK118.out _) 0).trans rfl, (blk_cell (blk_alloc BK115.out _) 0).trans rfl, (World.cell?_alloc_lt _ _ _ (World.block_lt_of_cell? _ _ (((HB.out.cell (World.block_lt_of_cell? w _ hw120_0)).trans hw120_0)))).trans (((HB.out.cell (World.block_lt_of_cell? w _ hw120_0)).trans hw120_0)), (World.cell?_alloc_lt _ _ _ (World.block_lt_of_cell? _ _ (((HB.out.cell (World.block_lt_of_cell? w _ hw120_1)).trans hw120_1)))).trans (((HB.out.cell (World.block_lt_of_cell? w _ hw120_1)).trans hw120_1))⟩ (fun hHeld => ?_)
           clear hK K; refine norm_ (a' := ?_) ?_ ?_
           rotate_left
           · show Act.put _ (some 32) _ = _
             simp only [Act.put, ps1, ps2, ps3, i64_w, i32_w]; rfl
           refine one_ (i := 8) (N := some 33) #[true, true, true, true, true, true, true, true, true, false, false] rfl rfl (one_of HT_.out (by kernel_rfl)) (by decide) (fun K hK => ?_)
           refine Kd.R_append_step k71 (w0 := w) w.heap.size (by rfl) (.tmp 26) (.tmp 32) 28 71 (.agg #[(.string ⟨#[]⟩), (.string ⟨#[]⟩)]) 32 rfl Try.underlying28 info71 rfl (by decide) (by omega) u119000 x119000_1 (⟨(rd_T71 l0_0 x6_1).f0, (rd_T71 l0_0 x6_1).f1⟩ : S71) [.string ((rd_T71 l0_0 x6_1).f0), .string ((rd_T71 l0_0 x6_1).f1)] (fun k_ => k_ ≠ gb116) (fun _ => False) rfl rfl ?aP (fun _ hk => hk.elim) ?aF ?aO ?aB ?aS ?aL ?_
           (case aP => exact k71_mkM _ _ _ (⟨(rd_T71 l0_0 x6_1).f0, (rd_T71 l0_0 x6_1).f1⟩ : S71))
           (case aB => exact t21_)
           (case aF => exact (fun k_ hk => Kd.freshB (g := gb116) (o := .cells #[.string a1_0, .string a1_1] 71 (0, 0)) t69_ k_ hk))
           (case aO => exact (by (with_reducible repeat (first | apply Kd.R_alloc | apply Kd.R_drewN | apply Kd.R_drew)); exact HO_119000.out))
           (case aS => exact (below_size t21_))
           (case aL => have := LMc14.out; omega)
           intro v122 w21 ho hb hg hat; rw [← Ny121.out] at ho; have n0_ := Aside0.mk (blk_grown (g := gb115) (o := .cells #[.slice (some ad119) l0_0.length c0_0] 30 (0, 0)) (by (with_reducible repeat (first | refine blk_drewN ?_ _ | refine blk_drew ?_ | refine blk_alloc ?_ _)); exact BK115.out) hg (Kd.R_ne HO_119000.out BK115.out (by decide))); have n1_ := Aside0.mk (blk_grown (g := gb116) (o := .cells #[.string a1_0, .string a1_1] 71 (0, 0)) t69_ hg (Kd.R_away HO_119000.out (fun _ hk => hk))); have n2_ := Aside0.mk (blk_grown (g := gb117) (o := .cells #[.slice none 0 0] 30 (0, 0)) (by (with_reducible repeat (first | refine blk_drewN ?_ _ | refine blk_drew ?_ | refine blk_alloc ?_ _)); exact BK117.out) hg (Kd.R_ne HO_119000.out BK117.out (by decide))); have n3_ := Aside0.mk (blk_grown (g := gb118) (o := .cells #[u119000] 30 (0, 0)) (by (with_reducible repeat (first | refine blk_drewN ?_ _ | refine blk_drew ?_ | refine blk_alloc ?_ _)); exact BK118.out) hg (Kd.R_ne HO_119000.out BK118.out (by decide))); have n4_ := Aside0.mk (hb); have n5_ := Aside0.mk (ho); clear BK115; clear BK116; clear BK117; clear BK118; clear HB; clear HO_119000; have BK115 := n0_; have BK116 := n1_; have BK117 := n2_; have BK118 := n3_; have HB := n4_; have HO123 := n5_; clear n0_ n1_ n2_ n3_ n4_ n5_; clear ho hb hg hat; obtain ⟨Ao22, co22, eo22⟩ := Kd.R_slice HO123.out
           (first | subst eo22 | (injection eo22 with f1_ f2_ f3_; have f4_ := f1_.symm; have f5_ := f3_.symm; clear f1_ f2_ f3_; subst f4_; subst f5_))
           refine hK.out _ _ ⟨bc0 BK118, bc0 BK115, ((HB.out.cell (World.block_lt_of_cell? w _ hw120_0)).trans hw120_0), ((HB.out.cell (World.block_lt_of_cell? w _ hw120_1)).trans hw120_1)⟩ (fun hHeld => ?_)
           clear hK K; refine norm_ (a' := ?_) ?_ ?_
           rotate_left
           · show Act.put _ (some 33) _ = _
             simp only [Act.put, ps1, ps2, ps3, i64_w, i32_w]; rfl
           refine pure_ (i := 9) (N := some 34) (v := ?_) (a' := ?_) #[true, true, true, true, true, true, true, true, true, true, false] rfl rfl (any_of HT_.out (by kernel_rfl)) (fun _ _ _ h => h) (Or.inl ⟨by rfl, ?_⟩) ?_ ?_
           rotate_left
           · intro w'; go_simp; with_reducible rfl
           rotate_left
           · simp only [Act.put, ps1, ps2, ps3, i64_w, i32_w]; rfl
           refine last_ (i := 10) (N := none) #[true, true, true, true, true, true, true, true, true, true, true] rfl rfl (one_of HT_.out (by kernel_rfl)) (by decide) (fun K hK => ?_)
           have hs23 : w21.cell? ⟨gb118, 0, none⟩ = some (u119000) := bc0 BK118; have hfs23 := bf BK118 0; have hns23_0 := NB115_118.out; have hns23_1 := NB116_118.out; have hns23_2 := NB117_118.out; have hms23_0 := NB118_115.out; have hms23_1 := NB118_116.out; have hms23_2 := NB118_117.out; refine skip_ (w1 := ?_) (by rfl) rfl ?_ ?_
           rotate_left
           · go_simp; rfl
           refine hK.out _ _ ?_
           clear hK K; refine done_ (done_of HT_.out (by kernel_rfl)) ?_
           try go_wp2
           go_roundg k1
           case measure => have := HK1.out; omega
           case rel => exact ⟨(wrap64 (x6_1 + 1)), (y121), (.slice Ao22 y121.length co22), t20_, H', ⟨by have := HK1.out; omega⟩, ⟨by (with_reducible repeat (first | apply Kd.R_alloc | apply Kd.R_drewN | apply Kd.R_drew)); exact Kd.R_mono (Kd.R_far (p := ⟨gb118, 0, none⟩) (Kd.R_types HO123.out BK118.out (by decide)) (fun _ hk => hk.2) (.slice Ao22 y121.length co22)) (fun _ hk => hk.1)⟩, ⟨by (with_reducible repeat (first | refine blk_drewN ?_ _ | refine blk_drew ?_ | refine blk_alloc ?_ _)); refine blk_far ?_ NB115_118.out _; (with_reducible repeat (first | refine blk_drewN ?_ _ | refine blk_drew ?_ | refine blk_alloc ?_ _)); exact BK115.out⟩, ⟨by (with_reducible repeat (first | refine blk_drewN ?_ _ | refine blk_drew ?_ | refine blk_alloc ?_ _)); refine blk_far ?_ NB116_118.out _; (with_reducible repeat (first | refine blk_drewN ?_ _ | refine blk_drew ?_ | refine blk_alloc ?_ _)); exact BK116.out⟩, ⟨by (with_reducible repeat (first | refine blk_drewN ?_ _ | refine blk_drew ?_ | refine blk_alloc ?_ _)); refine blk_far ?_ NB117_118.out _; (with_reducible repeat (first | refine blk_drewN ?_ _ | refine blk_drew ?_ | refine blk_alloc ?_ _)); exact BK117.out⟩, ⟨by (with_reducible repeat (first | refine blk_drewN ?_ _ | refine blk_drew ?_ | refine blk_alloc ?_ _)); refine blk_put (cs := #[u119000]) ?_ 0 _ rfl; (with_reducible repeat (first | refine blk_drewN ?_ _ | refine blk_drew ?_ | refine blk_alloc ?_ _)); exact BK118.out⟩, ⟨t21_⟩⟩
         · rw [if_neg c14] at H; exact absurd H (by simp)
       · rw [if_neg c13] at H; have c13b0 : (Op.bytesLess (((rd_T71 l0_0 x6_1).f0).toList) a1_0.toList) = false := by simpa using c13
         obtain ⟨c13b7, c13b6⟩ := bl_gtr_f c13b0; clear c13; have H' := Aside0.mk H; clear H; have hnb24 := NB115_116.out; have hnc24 := NB116_115.out; have hnb25 := NB115_117.out; have hnc25 := NB117_115.out; have hnb26 := NB115_118.out; have hnc26 := NB118_115.out; obtain ⟨hcz27_0, hfz27_0⟩ := ba1 BK115
         try go_wp2
         replace HO_119000 := Aside0.mk (Kd.R_drew HO_119000.out); replace BK115 := Aside0.mk (blk_drew BK115.out); replace BK116 := Aside0.mk (blk_drew BK116.out); replace BK117 := Aside0.mk (blk_drew BK117.out); replace BK118 := Aside0.mk (blk_drew BK118.out); replace HB := Aside0.mk (below_drew1 HB.out); have p119 : 0 ≤ (x6_1 : Int) := of_decide_eq_true t7_; have q119 : x6_1 < (l0_0.length : Int) := of_decide_eq_true t7_; obtain ⟨ad119, e119, hx119_0, hx119_1⟩ := at_T71 HR0_0.out x6_1 p119 q119; have hw119_1 := hx119_1; have hw119_0 := hx119_0
         cases e119
         replace hx119_0 := cW HB hx119_0; replace hx119_1 := cW HB hx119_1; replace p119 := eq_true p119; replace q119 := eq_true q119; refine start_ (n := 9) (S := fun w' => w'.cell? ⟨gb115, 0, none⟩ = some (.slice (some ad119) l0_0.length c0_0) ∧ w'.cell? ⟨gb116, 0, none⟩ = some (.string a1_0) ∧ w'.cell? ⟨gb116, 1, none⟩ = some (.string a1_1) ∧ w'.cell? (ad119.add ((x6_1).toNat * 2)) = some (.string ((rd_T71 l0_0 x6_1).f0)) ∧ w'.cell? ⟨(ad119.add ((x6_1).toNat * 2)).block, (ad119.add ((x6_1).toNat * 2)).off + 1, none⟩ = some (.string ((rd_T71 l0_0 x6_1).f1))) (ds := []) #[false, false, false, false, false, false, false, false, false] (by kernel_rfl) rfl rfl ⟨bc0 BK115, bc0 BK116, bc1 BK116, ((HB.out.cell (World.block_lt_of_cell? w _ hw119_0)).trans hw119_0), ((HB.out.cell (World.block_lt_of_cell? w _ hw119_1)).trans hw119_1)⟩ (fun hHeld => ?_); refine with_tabW spec_l03Put.tab5 spec_l03Put.bits5 (fun HT_ HW_ => ?_)
         generalize wr.drew = w28 at HO_119000 BK115 BK116 BK117 BK118 HB hx119_0 hx119_1 hHeld ⊢; refine pure_ (i := 0) (N := some 16) (v := ?_) (a' := ?_) #[true, false, false, false, false, false, false, false, false] rfl rfl (any_of HT_.out (by kernel_rfl)) (fun _ _ _ h => h) (Or.inl ⟨by rfl, ?_⟩) ?_ ?_
         rotate_left
         · intro w'; go_simp; with_reducible rfl
         rotate_left
         · simp only [Act.put, ps1, ps2, ps3, i64_w, i32_w]; rfl
         refine pure_ (i := 2) (N := some 18) (v := ?_) (a' := ?_) #[true, false, true, false, false, false, false, false, false] rfl rfl (any_of HT_.out (by kernel_rfl)) (fun _ _ _ h => h) (Or.inl ⟨by rfl, ?_⟩) ?_ ?_
         rotate_left
         · intro w'; go_simp; with_reducible rfl
         rotate_left
         · simp only [Act.put, ps1, ps2, ps3, i64_w, i32_w]; rfl
         refine pure_ (i := 6) (N := some 22) (v := ?_) (a' := ?_) #[true, false, true, false, false, false, true, false, false] rfl rfl (any_of HT_.out (by kernel_rfl)) (fun _ _ _ h => h) (Or.inl ⟨by rfl, ?_⟩) ?_ ?_
         rotate_left
         · intro w'; go_simp; with_reducible rfl
         rotate_left
         · simp only [Act.put, ps1, ps2, ps3, i64_w, i32_w]; rfl
         refine take_ (i := 1) (N := some 17) (v := ?_) (a' := ?_) #[true, true, true, false, false, false, true, false, false] rfl rfl (take_ofW HT_.out HW_.out (by kernel_rfl)) (fun _ _ _ h => h) (Or.inl ⟨by rfl, ?_⟩) hHeld ?_ ?_
         rotate_left
         · rintro w' ⟨s0, s1, s2, s3, s4⟩; go_simp; with_reducible rfl
         rotate_left
         · simp only [Act.put, ps1, ps2, ps3, i64_w, i32_w]; rfl
         refine pure_ (i := 3) (N := some 19) (v := ?_) (a' := ?_) #[true, true, true, true, false, false, true, false, false] rfl rfl (any_of HT_.out (by kernel_rfl)) (fun _ _ _ h => h) (Or.inl ⟨by rfl, ?_⟩) ?_ ?_
         rotate_left
         · intro w'; go_simp; with_reducible rfl
         rotate_left
         · simp only [Act.put, ps1, ps2, ps3, i64_w, i32_w]; rfl
         refine pure_ (i := 4) (N := some 20) (v := ?_) (a' := ?_) #[true, true, true, true, true, false, true, false, false] rfl rfl (any_of HT_.out (by kernel_rfl)) (fun _ _ _ h => h) (Or.inl ⟨by rfl, ?_⟩) ?_ ?_
         rotate_left
         · intro w'; go_simp; with_reducible rfl
         rotate_left
         · simp only [Act.put, ps1, ps2, ps3, i64_w, i32_w]; rfl
         refine take_ (i := 5) (N := some 21) (v := ?_) (a' := ?_) #[true, true, true, true, true, true, true, false, false] rfl rfl (take_ofW HT_.out HW_.out (by kernel_rfl)) (fun _ _ _ h => h) (Or.inl ⟨by rfl, ?_⟩) hHeld ?_ ?_
         rotate_left
         · rintro w' ⟨s0, s1, s2, s3, s4⟩; go_simp; with_reducible rfl
         rotate_left
         · simp only [Act.put, ps1, ps2, ps3, i64_w, i32_w]; rfl
         refine take_ (i := 7) (N := some 23) (v := ?_) (a' := ?_) #[true, true, true, true, true, true, true, true, false] rfl rfl (take_ofW HT_.out HW_.out (by kernel_rfl)) (fun _ _ _ h => h) (Or.inl ⟨by rfl, ?_⟩) hHeld ?_ ?_
         rotate_left
         · rintro w' ⟨s0, s1, s2, s3, s4⟩; go_simp; with_reducible rfl
         rotate_left
         · simp only [Act.put, ps1, ps2, ps3, i64_w, i32_w]; rfl
         refine pure_ (i := 8) (N := some 24) (v := ?_) (a' := ?_) #[true, true, true, true, true, true, true, true, true] rfl rfl (any_of HT_.out (by kernel_rfl)) (fun _ _ _ h => h) (Or.inl ⟨by rfl, ?_⟩) ?_ ?_
         rotate_left
         · intro w'; go_simp; with_reducible rfl
         rotate_left
         · simp only [Act.put, ps1, ps2, ps3, i64_w, i32_w]; rfl
         refine done_ (done_of HT_.out (by kernel_rfl)) ?_
         try go_wp2
         go_roundg k1
         case measure => have := HK1.out; omega
         case rel => exact ⟨(wrap64 (x6_1 + 1)), (x119000_1), (u119000), t20_, H', ⟨by have := HK1.out; omega⟩, ⟨by (with_reducible repeat (first | apply Kd.R_alloc | apply Kd.R_drewN | apply Kd.R_drew)); exact HO_119000.out⟩, ⟨by (with_reducible repeat (first | refine blk_drewN ?_ _ | refine blk_drew ?_ | refine blk_alloc ?_ _)); exact BK115.out⟩, ⟨by (with_reducible repeat (first | refine blk_drewN ?_ _ | refine blk_drew ?_ | refine blk_alloc ?_ _)); exact BK116.out⟩, ⟨by (with_reducible repeat (first | refine blk_drewN ?_ _ | refine blk_drew ?_ | refine blk_alloc ?_ _)); exact BK117.out⟩, ⟨by (with_reducible repeat (first | refine blk_drewN ?_ _ | refine blk_drew ?_ | refine blk_alloc ?_ _)); exact BK118.out⟩, ⟨t21_⟩⟩
     · rw [if_neg c12] at H; exact absurd H (by simp)
   · rw [if_neg c11] at H; have c11b0 : decide (x6_1 < (l0_0.length : Int)) = false := decide_eq_false c11; clear c11; by_cases c29 : x119000_1.length < 4398046511104
     · rw [if_pos c29] at H; have LMc29 := Aside0.mk c29; clear c29; obtain ⟨y124, hy124⟩ : ∃ y_ : List (S71), y_ = (x119000_1 ++ [(⟨a1_0, a1_1⟩ : S71)]) := ⟨_, rfl⟩; replace H : (spec_l03Put.l1 k1 0 l0_0 a1_0 a1_1 y124) = some r := by first | (rw [hy124]; with_reducible exact H) | (have H2_ := (Option.bind_some _ _).symm.trans H; rw [hy124]; with_reducible exact H2_) | (have H2_ := (Option.bind_some _ _).symm.trans H; with_reducible exact H2_) | with_reducible exact H | (rw [hy124]; exact H) | exact H
       have Ny124 := Aside0.mk hy124; clear hy124; have H' := Aside0.mk H; clear H; have hnb30 := NB115_116.out; have hnc30 := NB116_115.out; have hnb31 := NB115_117.out; have hnc31 := NB117_115.out; have hnb32 := NB115_118.out; have hnc32 := NB118_115.out; obtain ⟨hcz33_0, hfz33_0⟩ := ba1 BK115; have hnb34 := NB118_116.out; have hnc34 := NB116_118.out; have hnb35 := NB118_117.out; have hnc35 := NB117_118.out; obtain ⟨hcz36_0, hfz36_0⟩ := ba1 BK118; have hnb37 := NB116_117.out; have hnc37 := NB117_116.out; obtain ⟨hcz38_0, hcz38_1, hfz38_0, hfz38_1⟩ := ba2 BK116
       go_wp2_with (first | ((with_reducible refine gate_builtin (b := .append) (xs := #[.tmp 36, .tmp 38]) rfl ?_); at_builtin; refine Kd.R_append k71 (w0 := w) w.heap.size rfl (.tmp 36) (.tmp 38) 28 71 (.agg #[(.string ⟨#[]⟩), (.string ⟨#[]⟩)]) 32 rfl Try.underlying28 info71 rfl (by decide) (by omega) u119000 x119000_1 (⟨a1_0, a1_1⟩ : S71) [.string a1_0, .string a1_1] (fun k_ => k_ ≠ gb116) (fun _ => False) rfl rfl ?aP (fun _ hk => hk.elim) ?aF ?aO ?aB ?aS ?aL ?_; (case aP => exact k71_mkM _ _ _ (⟨a1_0, a1_1⟩ : S71)); (case aB => exact t21_); (case aF => exact (fun k_ hk => Kd.freshB (g := gb116) (o := .cells #[.string a1_0, .string a1_1] 71 (0, 0)) t69_ k_ hk)); (case aO => exact (by (with_reducible repeat (first | apply Kd.R_alloc | apply Kd.R_drewN | apply Kd.R_drew)); exact HO_119000.out)); (case aS => exact (below_size t21_)); (case aL => have := LMc29.out; omega); intro v125 w39 ho hb hg hat; rw [← Ny124.out] at ho; have n0_ := Aside0.mk (blk_grown (g := gb115) (o := .cells #[.slice A0_0 l0_0.length c0_0] 30 (0, 0)) (by (with_reducible repeat (first | refine blk_drewN ?_ _ | refine blk_drew ?_ | refine blk_alloc ?_ _)); exact BK115.out) hg (Kd.R_ne HO_119000.out BK115.out (by decide))); have n1_ := Aside0.mk (blk_grown (g := gb116) (o := .cells #[.string a1_0, .string a1_1] 71 (0, 0)) t69_ hg (Kd.R_away HO_119000.out (fun _ hk => hk))); have n2_ := Aside0.mk (blk_grown (g := gb117) (o := .cells #[.slice none 0 0] 30 (0, 0)) (by (with_reducible repeat (first | refine blk_drewN ?_ _ | refine blk_drew ?_ | refine blk_alloc ?_ _)); exact BK117.out) hg (Kd.R_ne HO_119000.out BK117.out (by decide))); have n3_ := Aside0.mk (blk_grown (g := gb118) (o := .cells #[u119000] 30 (0, 0)) (by (with_reducible repeat (first | refine blk_drewN ?_ _ | refine blk_drew ?_ | refine blk_alloc ?_ _)); exact BK118.out) hg (Kd.R_ne HO_119000.out BK118.out (by decide))); have n4_ := Aside0.mk (hb); have n5_ := Aside0.mk (ho); clear BK115; clear BK116; clear BK117; clear BK118; clear HB; clear HO_119000; have BK115 := n0_; have BK116 := n1_; have BK117 := n2_; have BK118 := n3_; have HB := n4_; have HO126 := n5_; clear n0_ n1_ n2_ n3_ n4_ n5_; clear ho hb hg hat; obtain ⟨Ao40, co40, eo40⟩ := Kd.R_slice HO126.out; subst eo40; obtain ⟨hcz41_0, hfz41_0⟩ := ba1 BK118))
       go_loopg [7] k1 (fun kq v7 w' => ∃ (x7_2 : Int) (x119000_2 : List (S71)) (u119000 : Value), v7 = .int .i64 x7_2 ∧ Aside0 (spec_l03Put.l1 kq x7_2 l0_0 a1_0 a1_1 x119000_2 = some r) ∧ Aside0 (kq ≤ k1) ∧ Aside0 (Kd.R k71 71 w' w.heap.size (fun k_ => k_ ≠ gb116) u119000 x119000_2) ∧ Aside0 (w'.heap[gb115]? = some (.cells #[(.slice A0_0 l0_0.length c0_0)] 30 (0, 0))) ∧ Aside0 (w'.heap[gb116]? = some (.cells #[.string a1_0, .string a1_1] 71 (0, 0))) ∧ Aside0 (w'.heap[gb117]? = some (.cells #[(.slice none 0 0)] 30 (0, 0))) ∧ Aside0 (w'.heap[gb118]? = some (.cells #[u119000] 30 (0, 0))) ∧ Aside0 (Below w.heap.size w w'))
       case atStart => exact ⟨(0), (y124), (.slice Ao40 y124.length co40), t20_, H', ⟨Nat.le_refl _⟩, ⟨by (with_reducible repeat (first | apply Kd.R_alloc | apply Kd.R_drewN | apply Kd.R_drew)); exact Kd.R_mono (Kd.R_far (p := ⟨gb118, 0, none⟩) (Kd.R_types HO126.out BK118.out (by decide)) (fun _ hk => hk.2) (.slice Ao40 y124.length co40)) (fun _ hk => hk.1)⟩, ⟨by (with_reducible repeat (first | refine blk_drewN ?_ _ | refine blk_drew ?_ | refine blk_alloc ?_ _)); refine blk_far ?_ NB115_118.out _; (with_reducible repeat (first | refine blk_drewN ?_ _ | refine blk_drew ?_ | refine blk_alloc ?_ _)); exact BK115.out⟩, ⟨by (with_reducible repeat (first | refine blk_drewN ?_ _ | refine blk_drew ?_ | refine blk_alloc ?_ _)); refine blk_far ?_ NB116_118.out _; (with_reducible repeat (first | refine blk_drewN ?_ _ | refine blk_drew ?_ | refine blk_alloc ?_ _)); exact BK116.out⟩, ⟨by (with_reducible repeat (first | refine blk_drewN ?_ _ | refine blk_drew ?_ | refine blk_alloc ?_ _)); refine blk_far ?_ NB117_118.out _; (with_reducible repeat (first | refine blk_drewN ?_ _ | refine blk_drew ?_ | refine blk_alloc ?_ _)); exact BK117.out⟩, ⟨by (with_reducible repeat (first | refine blk_drewN ?_ _ | refine blk_drew ?_ | refine blk_alloc ?_ _)); refine blk_put (cs := #[u119000]) ?_ 0 _ rfl; (with_reducible repeat (first | refine blk_drewN ?_ _ | refine blk_drew ?_ | refine blk_alloc ?_ _)); exact BK118.out⟩, ⟨t21_⟩⟩
       case round =>
        clear H'
        try clear c1
        try clear p1
        try clear q1
        try clear hx1
        try clear c2
        try clear p2
        try clear c3
        try clear p6
        try clear c7
        try clear c8
        try clear c9
        try clear c11
        try clear c11b0
        try clear p11
        try clear q11
        try clear hx11
        try clear c12
        try clear c12b0
        try clear p12
        try clear q12
        try clear hx12
        try clear c13
        try clear c13b0
        try clear c14
        try clear c15
        try clear c16
        try clear c17
        try clear c24
        try clear c25
        try clear c26
        try clear c29
        try clear c30
        try clear c31
        try clear c32
        try clear c34
        try clear c35
        try clear c37
        try clear hcz10_0
        try clear hcz18_0
        try clear hcz27_0
        try clear hcz33_0
        try clear hcz36_0
        try clear hcz38_0
        try clear hcz38_1
        try clear hcz41_0
        try clear hfz10_0
        try clear hfz18_0
        try clear hfz27_0
        try clear hfz33_0
        try clear hfz36_0
        try clear hfz38_0
        try clear hfz38_1
        try clear hfz41_0
        try clear hx119_0
        try clear hx119_1
        try clear hx120_0
        try clear hx120_1
        try clear p119
        try clear p120
        try clear p2
        try clear q119
        try clear q120
        obtain ⟨x7_2, x119000_2, u119000, rfl, HA, HK2, HO_119000, BK115, BK116, BK117, BK118, HB⟩ := hrel
        cases gk with
        | zero => exact absurd HA.out (by simp [spec_l03Put.l1])
        | succ k2 =>
         have H := HA.out; clear HA; simp only [spec_l03Put.l1] at H; by_cases c42 : x7_2 < (l0_0.length : Int)
         · rw [if_pos c42] at H; have c42b0 : decide (x7_2 < (l0_0.length : Int)) = true := decide_eq_true c42; clear c42; by_cases c43 : 0 ≤ x7_2
           · rw [if_pos c43] at H; have c43b0 : decide (0 ≤ x7_2) = true := decide_eq_true c43; clear c43; by_cases c44 : (Op.bytesLess a1_0.toList (((rd_T71 l0_0 x7_2).f0).toList)) = true
             · rw [if_pos c44] at H; have c44b0 : (Op.bytesLess a1_0.toList (((rd_T71 l0_0 x7_2).f0).toList)) = true := c44; obtain ⟨c44b7, c44b6⟩ := bl_gtr_t c44b0; clear c44; by_cases c45 : x119000_2.length < 4398046511104
               · rw [if_pos c45] at H; have LMc45 := Aside0.mk c45; clear c45; obtain ⟨y129, hy129⟩ : ∃ y_ : List (S71), y_ = (x119000_2 ++ [(⟨(rd_T71 l0_0 x7_2).f0, (rd_T71 l0_0 x7_2).f1⟩ : S71)]) := ⟨_, rfl⟩; replace H : (spec_l03Put.l1 k2 (wrap64 (x7_2 + 1)) l0_0 a1_0 a1_1 y129) = some r := by first | (rw [hy129]; with_reducible exact H) | (have H2_ := (Option.bind_some _ _).symm.trans H; rw [hy129]; with_reducible exact H2_) | (have H2_ := (Option.bind_some _ _).symm.trans H; with_reducible exact H2_) | with_reducible exact H | (rw [hy129]; exact H) | exact H
                 have Ny129 := Aside0.mk hy129; clear hy129; have H' := Aside0.mk H; clear H; have hnb46 := NB115_116.out; have hnc46 := NB116_115.out; have hnb47 := NB115_117.out; have hnc47 := NB117_115.out; have hnb48 := NB115_118.out; have hnc48 := NB118_115.out; obtain ⟨hcz49_0, hfz49_0⟩ := ba1 BK115
                 try go_wp2
                 replace HO_119000 := Aside0.mk (Kd.R_drew HO_119000.out); replace BK115 := Aside0.mk (blk_drew BK115.out); replace BK116 := Aside0.mk (blk_drew BK116.out); replace BK117 := Aside0.mk (blk_drew BK117.out); replace BK118 := Aside0.mk (blk_drew BK118.out); replace HB := Aside0.mk (below_drew1 HB.out); have p127 : 0 ≤ (x7_2 : Int) := of_decide_eq_true t7_; have q127 : x7_2 < (l0_0.length : Int) := of_decide_eq_true t7_; obtain ⟨ad127, e127, hx127_0, hx127_1⟩ := at_T71 HR0_0.out x7_2 p127 q127; have hw127_1 := hx127_1; have hw127_0 := hx127_0
                 cases e127
                 replace hx127_0 := cW HB hx127_0; replace hx127_1 := cW HB hx127_1; replace p127 := eq_true p127; replace q127 := eq_true q127; refine start_ (n := 9) (S := fun w' => w'.cell? ⟨gb115, 0, none⟩ = some (.slice (some ad127) l0_0.length c0_0) ∧ w'.cell? ⟨gb116, 0, none⟩ = some (.string a1_0) ∧ w'.cell? ⟨gb116, 1, none⟩ = some (.string a1_1) ∧ w'.cell? (ad127.add ((x7_2).toNat * 2)) = some (.string ((rd_T71 l0_0 x7_2).f0)) ∧ w'.cell? ⟨(ad127.add ((x7_2).toNat * 2)).block, (ad127.add ((x7_2).toNat * 2)).off + 1, none⟩ = some (.string ((rd_T71 l0_0 x7_2).f1))) (ds := []) #[false, false, false, false, false, false, false, false, false] (by kernel_rfl) rfl rfl ⟨bc0 BK115, bc0 BK116, bc1 BK116, ((HB.out.cell (World.block_lt_of_cell? w _ hw127_0)).trans hw127_0), ((HB.out.cell (World.block_lt_of_cell? w _ hw127_1)).trans hw127_1)⟩ (fun hHeld => ?_); refine with_tabW spec_l03Put.tab11 spec_l03Put.bits11 (fun HT_ HW_ => ?_)
                 generalize wr.drew = w50 at HO_119000 BK115 BK116 BK117 BK118 HB hx127_0 hx127_1 hHeld ⊢; refine pure_ (i := 0) (N := some 48) (v := ?_) (a' := ?_) #[true, false, false, false, false, false, false, false, false] rfl rfl (any_of HT_.out (by kernel_rfl)) (fun _ _ _ h => h) (Or.inl ⟨by rfl, ?_⟩) ?_ ?_
                 rotate_left
                 · intro w'; go_simp; with_reducible rfl
                 rotate_left
                 · simp only [Act.put, ps1, ps2, ps3, i64_w, i32_w]; rfl
                 refine pure_ (i := 2) (N := some 50) (v := ?_) (a' := ?_) #[true, false, true, false, false, false, false, false, false] rfl rfl (any_of HT_.out (by kernel_rfl)) (fun _ _ _ h => h) (Or.inl ⟨by rfl, ?_⟩) ?_ ?_
                 rotate_left
                 · intro w'; go_simp; with_reducible rfl
                 rotate_left
                 · simp only [Act.put, ps1, ps2, ps3, i64_w, i32_w]; rfl
                 refine pure_ (i := 6) (N := some 54) (v := ?_) (a' := ?_) #[true, false, true, false, false, false, true, false, false] rfl rfl (any_of HT_.out (by kernel_rfl)) (fun _ _ _ h => h) (Or.inl ⟨by rfl, ?_⟩) ?_ ?_
                 rotate_left
                 · intro w'; go_simp; with_reducible rfl
                 rotate_left
                 · simp only [Act.put, ps1, ps2, ps3, i64_w, i32_w]; rfl
                 refine take_ (i := 1) (N := some 49) (v := ?_) (a' := ?_) #[true, true, true, false, false, false, true, false, false] rfl rfl (take_ofW HT_.out HW_.out (by kernel_rfl)) (fun _ _ _ h => h) (Or.inl ⟨by rfl, ?_⟩) hHeld ?_ ?_
                 rotate_left
                 · rintro w' ⟨s0, s1, s2, s3, s4⟩; go_simp; with_reducible rfl
                 rotate_left
                 · simp only [Act.put, ps1, ps2, ps3, i64_w, i32_w]; rfl
                 refine pure_ (i := 3) (N := some 51) (v := ?_) (a' := ?_) #[true, true, true, true, false, false, true, false, false] rfl rfl (any_of HT_.out (by kernel_rfl)) (fun _ _ _ h => h) (Or.inl ⟨by rfl, ?_⟩) ?_ ?_
                 rotate_left
                 · intro w'; go_simp; with_reducible rfl
                 rotate_left
                 · simp only [Act.put, ps1, ps2, ps3, i64_w, i32_w]; rfl
                 refine pure_ (i := 4) (N := some 52) (v := ?_) (a' := ?_) #[true, true, true, true, true, false, true, false, false] rfl rfl (any_of HT_.out (by kernel_rfl)) (fun _ _ _ h => h) (Or.inl ⟨by rfl, ?_⟩) ?_ ?_
                 rotate_left
                 · intro w'; go_simp; with_reducible rfl
                 rotate_left
                 · simp only [Act.put, ps1, ps2, ps3, i64_w, i32_w]; rfl
                 refine take_ (i := 5) (N := some 53) (v := ?_) (a' := ?_) #[true, true, true, true, true, true, true, false, false] rfl rfl (take_ofW HT_.out HW_.out (by kernel_rfl)) (fun _ _ _ h => h) (Or.inl ⟨by rfl, ?_⟩) hHeld ?_ ?_
                 rotate_left
                 · rintro w' ⟨s0, s1, s2, s3, s4⟩; go_simp; with_reducible rfl
                 rotate_left
                 · simp only [Act.put, ps1, ps2, ps3, i64_w, i32_w]; rfl
                 refine take_ (i := 7) (N := some 55) (v := ?_) (a' := ?_) #[true, true, true, true, true, true, true, true, false] rfl rfl (take_ofW HT_.out HW_.out (by kernel_rfl)) (fun _ _ _ h => h) (Or.inl ⟨by rfl, ?_⟩) hHeld ?_ ?_
                 rotate_left
                 · rintro w' ⟨s0, s1, s2, s3, s4⟩; go_simp; with_reducible rfl
                 rotate_left
                 · simp only [Act.put, ps1, ps2, ps3, i64_w, i32_w]; rfl
                 refine pure_ (i := 8) (N := some 56) (v := ?_) (a' := ?_) #[true, true, true, true, true, true, true, true, true] rfl rfl (any_of HT_.out (by kernel_rfl)) (fun _ _ _ h => h) (Or.inl ⟨by rfl, ?_⟩) ?_ ?_
                 rotate_left
                 · intro w'; go_simp; with_reducible rfl
                 rotate_left
                 · simp only [Act.put, ps1, ps2, ps3, i64_w, i32_w]; rfl
                 refine done_ (done_of HT_.out (by kernel_rfl)) ?_
                 try go_wp2
                 replace HO_119000 := Aside0.mk (Kd.R_drew HO_119000.out); replace BK115 := Aside0.mk (blk_drew BK115.out); replace BK116 := Aside0.mk (blk_drew BK116.out); replace BK117 := Aside0.mk (blk_drew BK117.out); replace BK118 := Aside0.mk (blk_drew BK118.out); replace HB := Aside0.mk (below_drew1 HB.out); have p128 : 0 ≤ (x7_2 : Int) := of_decide_eq_true t7_; have q128 : x7_2 < (l0_0.length : Int) := of_decide_eq_true t7_; obtain ⟨ad128, e128, hx128_0, hx128_1⟩ := at_T71 HR0_0.out x7_2 p128 q128; have hw128_1 := hx128_1; have hw128_0 := hx128_0; obtain rfl : ad127 = ad128 := (by injection e128); replace hx128_0 := cW HB hx128_0; replace hx128_1 := cW HB hx128_1; replace p128 := eq_true p128; replace q128 := eq_true q128; refine start_ (n := 11) (S := fun w' => w'.cell? ⟨gb118, 0, none⟩ = some (u119000) ∧ w'.cell? ⟨gb115, 0, none⟩ = some (.slice (some ad127) l0_0.length c0_0) ∧ w'.cell? (ad127.add ((x7_2).toNat * 2)) = some (.string ((rd_T71 l0_0 x7_2).f0)) ∧ w'.cell? ⟨(ad127.add ((x7_2).toNat * 2)).block, (ad127.add ((x7_2).toNat * 2)).off + 1, none⟩ = some (.string ((rd_T71 l0_0 x7_2).f1))) (ds := [10]) #[false, false, false, false, false, false, false, false, false, false, false] (by kernel_rfl) rfl rfl ⟨bc0 BK118, bc0 BK115, ((HB.out.cell (World.block_lt_of_cell? w _ hw128_0)).trans hw128_0), ((HB.out.cell (World.block_lt_of_cell? w _ hw128_1)).trans hw128_1)⟩ (fun hHeld => ?_); refine with_tabW spec_l03Put.tab12 spec_l03Put.bits12 (fun HT_ HW_ => ?_)
                 generalize w50.drew = w51 at HO_119000 BK115 BK116 BK117 BK118 HB hx128_0 hx128_1 hHeld ⊢; refine pure_ (i := 0) (N := some 57) (v := ?_) (a' := ?_) #[true, false, false, false, false, false, false, false, false, false, false] rfl rfl (any_of HT_.out (by kernel_rfl)) (fun _ _ _ h => h) (Or.inl ⟨by rfl, ?_⟩) ?_ ?_
                 rotate_left
                 · intro w'; go_simp; with_reducible rfl
                 rotate_left
                 · simp only [Act.put, ps1, ps2, ps3, i64_w, i32_w]; rfl
                 refine pure_ (i := 2) (N := some 59) (v := ?_) (a' := ?_) #[true, false, true, false, false, false, false, false, false, false, false] rfl rfl (any_of HT_.out (by kernel_rfl)) (fun _ _ _ h => h) (Or.inl ⟨by rfl, ?_⟩) ?_ ?_
                 rotate_left
                 · intro w'; go_simp; with_reducible rfl
                 rotate_left
                 · simp only [Act.put, ps1, ps2, ps3, i64_w, i32_w]; rfl
                 refine pure_ (i := 4) (N := some 61) (v := ?_) (a' := ?_) #[true, false, true, false, true, false, false, false, false, false, false] rfl rfl (any_of HT_.out (by kernel_rfl)) (fun _ _ _ h => h) (Or.inl ⟨by rfl, ?_⟩) ?_ ?_
                 rotate_left
                 · intro w'; go_simp; with_reducible rfl
                 rotate_left
                 · simp only [Act.put, ps1, ps2, ps3, i64_w, i32_w]; rfl
                 refine take_ (i := 1) (N := some 58) (v := ?_) (a' := ?_) #[true, true, true, false, true, false, false, false, false, false, false] rfl rfl (take_ofW HT_.out HW_.out (by kernel_rfl)) (fun _ _ _ h => h) (Or.inl ⟨by rfl, ?_⟩) hHeld ?_ ?_
                 rotate_left
                 · rintro w' ⟨s0, s1, s2, s3⟩; go_simp; with_reducible rfl
                 rotate_left
                 · simp only [Act.put, ps1, ps2, ps3, i64_w, i32_w]; rfl
                 refine take_ (i := 3) (N := some 60) (v := ?_) (a' := ?_) #[true, true, true, true, true, false, false, false, false, false, false] rfl rfl (take_ofW HT_.out HW_.out (by kernel_rfl)) (fun _ _ _ h => h) (Or.inl ⟨by rfl, ?_⟩) hHeld ?_ ?_
                 rotate_left
                 · rintro w' ⟨s0, s1, s2, s3⟩; go_simp; with_reducible rfl
                 rotate_left
                 · simp only [Act.put, ps1, ps2, ps3, i64_w, i32_w]; rfl
                 refine pure_ (i := 5) (N := some 62) (v := ?_) (a' := ?_) #[true, true, true, true, true, true, false, false, false, false, false] rfl rfl (any_of HT_.out (by kernel_rfl)) (fun _ _ _ h => h) (Or.inl ⟨by rfl, ?_⟩) ?_ ?_
                 rotate_left
                 · intro w'; go_simp; with_reducible rfl
                 rotate_left
                 · simp only [Act.put, ps1, ps2, ps3, i64_w, i32_w]; rfl
                 refine take_ (i := 6) (N := some 63) (v := ?_) (a' := ?_) #[true, true, true, true, true, true, true, false, false, false, false] rfl rfl (take_ofW HT_.out HW_.out (by kernel_rfl)) (fun _ _ _ h => h) (Or.inl ⟨by rfl, ?_⟩) hHeld ?_ ?_
                 rotate_left
                 · rintro w' ⟨s0, s1, s2, s3⟩; go_simp; with_reducible rfl
                 rotate_left
                 · simp only [Act.put, ps1, ps2, ps3, i64_w, i32_w]; rfl
                 refine one_ (i := 7) (N := some 64) #[true, true, true, true, true, true, true, true, false, false, false] rfl rfl (one_of HT_.out (by kernel_rfl)) (by decide) (fun K hK => ?_)
                 refine value_ (w1 := ?_) (v := ?_) (by rfl) rfl ?_ ?_
                 rotate_left 2
                 · go_simp
                   constructor
                   · rfl
                   · rfl
                 refine hK.out _ _ ⟨(blk_cell (blk_alloc BK118.out _) 0).trans rfl, (blk_cell (blk_alloc BK115.out _) 0).trans rfl, (World.cell?_alloc_lt _ _ _ (World.block_lt_of_cell? _ _ (((HB.out.cell (World.block_lt_of_cell? w _ hw128_0)).trans hw128_0)))).trans (((HB.out.cell (World.block_lt_of_cell? w _ hw128_0)).trans hw128_0)), (World.cell?_alloc_lt _ _ _ (World.block_lt_of_cell? _ _ (((HB.out.cell (World.block_lt_of_cell? w _ hw128_1)).trans hw128_1)))).trans (((HB.out.cell (World.block_lt_of_cell? w _ hw128_1)).trans hw128_1))⟩ (fun hHeld => ?_)
                 clear hK K; refine norm_ (a' := ?_) ?_ ?_
                 rotate_left
                 · show Act.put _ (some 64) _ = _
                   simp only [Act.put, ps1, ps2, ps3, i64_w, i32_w]; rfl
                 refine one_ (i := 8) (N := some 65) #[true, true, true, true, true, true, true, true, true, false, false] rfl rfl (one_of HT_.out (by kernel_rfl)) (by decide) (fun K hK => ?_)
                 refine Kd.R_append_step k71 (w0 := w) w.heap.size (by rfl) (.tmp 58) (.tmp 64) 28 71 (.agg #[(.string ⟨#[]⟩), (.string ⟨#[]⟩)]) 32 rfl Try.underlying28 info71 rfl (by decide) (by omega) u119000 x119000_2 (⟨(rd_T71 l0_0 x7_2).f0, (rd_T71 l0_0 x7_2).f1⟩ : S71) [.string ((rd_T71 l0_0 x7_2).f0), .string ((rd_T71 l0_0 x7_2).f1)] (fun k_ => k_ ≠ gb116) (fun _ => False) rfl rfl ?aP (fun _ hk => hk.elim) ?aF ?aO ?aB ?aS ?aL ?_
                 (case aP => exact k71_mkM _ _ _ (⟨(rd_T71 l0_0 x7_2).f0, (rd_T71 l0_0 x7_2).f1⟩ : S71))
                 (case aB => exact t21_)
                 (case aF => exact (fun k_ hk => Kd.freshB (g := gb116) (o := .cells #[.string a1_0, .string a1_1] 71 (0, 0)) t69_ k_ hk))
                 (case aO => exact (by (with_reducible repeat (first | apply Kd.R_alloc | apply Kd.R_drewN | apply Kd.R_drew)); exact HO_119000.out))
                 (case aS => exact (below_size t21_))
                 (case aL => have := LMc45.out; omega)
                 intro v130 w52 ho hb hg hat; rw [← Ny129.out] at ho; have n0_ := Aside0.mk (blk_grown (g := gb115) (o := .cells #[.slice (some ad127) l0_0.length c0_0] 30 (0, 0)) (by (with_reducible repeat (first | refine blk_drewN ?_ _ | refine blk_drew ?_ | refine blk_alloc ?_ _)); exact BK115.out) hg (Kd.R_ne HO_119000.out BK115.out (by decide))); have n1_ := Aside0.mk (blk_grown (g := gb116) (o := .cells #[.string a1_0, .string a1_1] 71 (0, 0)) t69_ hg (Kd.R_away HO_119000.out (fun _ hk => hk))); have n2_ := Aside0.mk (blk_grown (g := gb117) (o := .cells #[.slice none 0 0] 30 (0, 0)) (by (with_reducible repeat (first | refine blk_drewN ?_ _ | refine blk_drew ?_ | refine blk_alloc ?_ _)); exact BK117.out) hg (Kd.R_ne HO_119000.out BK117.out (by decide))); have n3_ := Aside0.mk (blk_grown (g := gb118) (o := .cells #[u119000] 30 (0, 0)) (by (with_reducible repeat (first | refine blk_drewN ?_ _ | refine blk_drew ?_ | refine blk_alloc ?_ _)); exact BK118.out) hg (Kd.R_ne HO_119000.out BK118.out (by decide))); have n4_ := Aside0.mk (hb); have n5_ := Aside0.mk (ho); clear BK115; clear BK116; clear BK117; clear BK118; clear HB; clear HO_119000; have BK115 := n0_; have BK116 := n1_; have BK117 := n2_; have BK118 := n3_; have HB := n4_; have HO131 := n5_; clear n0_ n1_ n2_ n3_ n4_ n5_; clear ho hb hg hat; obtain ⟨Ao53, co53, eo53⟩ := Kd.R_slice HO131.out
                 (first | subst eo53 | (injection eo53 with f1_ f2_ f3_; have f4_ := f1_.symm; have f5_ := f3_.symm; clear f1_ f2_ f3_; subst f4_; subst f5_))
                 refine hK.out _ _ ⟨bc0 BK118, bc0 BK115, ((HB.out.cell (World.block_lt_of_cell? w _ hw128_0)).trans hw128_0), ((HB.out.cell (World.block_lt_of_cell? w _ hw128_1)).trans hw128_1)⟩ (fun hHeld => ?_)
                 clear hK K; refine norm_ (a' := ?_) ?_ ?_
                 rotate_left
                 · show Act.put _ (some 65) _ = _
                   simp only [Act.put, ps1, ps2, ps3, i64_w, i32_w]; rfl
                 refine pure_ (i := 9) (N := some 66) (v := ?_) (a' := ?_) #[true, true, true, true, true, true, true, true, true, true, false] rfl rfl (any_of HT_.out (by kernel_rfl)) (fun _ _ _ h => h) (Or.inl ⟨by rfl, ?_⟩) ?_ ?_
                 rotate_left
                 · intro w'; go_simp; with_reducible rfl
                 rotate_left
                 · simp only [Act.put, ps1, ps2, ps3, i64_w, i32_w]; rfl
                 refine last_ (i := 10) (N := none) #[true, true, true, true, true, true, true, true, true, true, true] rfl rfl (one_of HT_.out (by kernel_rfl)) (by decide) (fun K hK => ?_)
                 have hs54 : w52.cell? ⟨gb118, 0, none⟩ = some (u119000) := bc0 BK118; have hfs54 := bf BK118 0; have hns54_0 := NB115_118.out; have hns54_1 := NB116_118.out; have hns54_2 := NB117_118.out; have hms54_0 := NB118_115.out; have hms54_1 := NB118_116.out; have hms54_2 := NB118_117.out; refine skip_ (w1 := ?_) (by rfl) rfl ?_ ?_
                 rotate_left
                 · go_simp; rfl
                 refine hK.out _ _ ?_
                 clear hK K; refine done_ (done_of HT_.out (by kernel_rfl)) ?_
                 try go_wp2
                 go_roundg k2
                 case measure => have := HK1.out; have := HK2.out; omega
                 case rel => exact ⟨(wrap64 (x7_2 + 1)), (y129), (.slice Ao53 y129.length co53), t20_, H', ⟨by have := HK1.out; have := HK2.out; omega⟩, ⟨by (with_reducible repeat (first | apply Kd.R_alloc | apply Kd.R_drewN | apply Kd.R_drew)); exact Kd.R_mono (Kd.R_far (p := ⟨gb118, 0, none⟩) (Kd.R_types HO131.out BK118.out (by decide)) (fun _ hk => hk.2) (.slice Ao53 y129.length co53)) (fun _ hk => hk.1)⟩, ⟨by (with_reducible repeat (first | refine blk_drewN ?_ _ | refine blk_drew ?_ | refine blk_alloc ?_ _)); refine blk_far ?_ NB115_118.out _; (with_reducible repeat (first | refine blk_drewN ?_ _ | refine blk_drew ?_ | refine blk_alloc ?_ _)); exact BK115.out⟩, ⟨by (with_reducible repeat (first | refine blk_drewN ?_ _ | refine blk_drew ?_ | refine blk_alloc ?_ _)); refine blk_far ?_ NB116_118.out _; (with_reducible repeat (first | refine blk_drewN ?_ _ | refine blk_drew ?_ | refine blk_alloc ?_ _)); exact BK116.out⟩, ⟨by (with_reducible repeat (first | refine blk_drewN ?_ _ | refine blk_drew ?_ | refine blk_alloc ?_ _)); refine blk_far ?_ NB117_118.out _; (with_reducible repeat (first | refine blk_drewN ?_ _ | refine blk_drew ?_ | refine blk_alloc ?_ _)); exact BK117.out⟩, ⟨by (with_reducible repeat (first | refine blk_drewN ?_ _ | refine blk_drew ?_ | refine blk_alloc ?_ _)); refine blk_put (cs := #[u119000]) ?_ 0 _ rfl; (with_reducible repeat (first | refine blk_drewN ?_ _ | refine blk_drew ?_ | refine blk_alloc ?_ _)); exact BK118.out⟩, ⟨t21_⟩⟩
               · rw [if_neg c45] at H; exact absurd H (by simp)
             · rw [if_neg c44] at H; have c44b0 : (Op.bytesLess a1_0.toList (((rd_T71 l0_0 x7_2).f0).toList)) = false := by simpa using c44
               obtain ⟨c44b7, c44b6⟩ := bl_gtr_f c44b0; clear c44; have H' := Aside0.mk H; clear H; have hnb55 := NB115_116.out; have hnc55 := NB116_115.out; have hnb56 := NB115_117.out; have hnc56 := NB117_115.out; have hnb57 := NB115_118.out; have hnc57 := NB118_115.out; obtain ⟨hcz58_0, hfz58_0⟩ := ba1 BK115
               try go_wp2
               replace HO_119000 := Aside0.mk (Kd.R_drew HO_119000.out); replace BK115 := Aside0.mk (blk_drew BK115.out); replace BK116 := Aside0.mk (blk_drew BK116.out); replace BK117 := Aside0.mk (blk_drew BK117.out); replace BK118 := Aside0.mk (blk_drew BK118.out); replace HB := Aside0.mk (below_drew1 HB.out); have p127 : 0 ≤ (x7_2 : Int) := of_decide_eq_true t7_; have q127 : x7_2 < (l0_0.length : Int) := of_decide_eq_true t7_; obtain ⟨ad127, e127, hx127_0, hx127_1⟩ := at_T71 HR0_0.out x7_2 p127 q127; have hw127_1 := hx127_1; have hw127_0 := hx127_0
               cases e127
               replace hx127_0 := cW HB hx127_0; replace hx127_1 := cW HB hx127_1; replace p127 := eq_true p127; replace q127 := eq_true q127; refine start_ (n := 9) (S := fun w' => w'.cell? ⟨gb115, 0, none⟩ = some (.slice (some ad127) l0_0.length c0_0) ∧ w'.cell? ⟨gb116, 0, none⟩ = some (.string a1_0) ∧ w'.cell? ⟨gb116, 1, none⟩ = some (.string a1_1) ∧ w'.cell? (ad127.add ((x7_2).toNat * 2)) = some (.string ((rd_T71 l0_0 x7_2).f0)) ∧ w'.cell? ⟨(ad127.add ((x7_2).toNat * 2)).block, (ad127.add ((x7_2).toNat * 2)).off + 1, none⟩ = some (.string ((rd_T71 l0_0 x7_2).f1))) (ds := []) #[false, false, false, false, false, false, false, false, false] (by kernel_rfl) rfl rfl ⟨bc0 BK115, bc0 BK116, bc1 BK116, ((HB.out.cell (World.block_lt_of_cell? w _ hw127_0)).trans hw127_0), ((HB.out.cell (World.block_lt_of_cell? w _ hw127_1)).trans hw127_1)⟩ (fun hHeld => ?_); refine with_tabW spec_l03Put.tab11 spec_l03Put.bits11 (fun HT_ HW_ => ?_)
               generalize wr.drew = w59 at HO_119000 BK115 BK116 BK117 BK118 HB hx127_0 hx127_1 hHeld ⊢; refine pure_ (i := 0) (N := some 48) (v := ?_) (a' := ?_) #[true, false, false, false, false, false, false, false, false] rfl rfl (any_of HT_.out (by kernel_rfl)) (fun _ _ _ h => h) (Or.inl ⟨by rfl, ?_⟩) ?_ ?_
               rotate_left
               · intro w'; go_simp; with_reducible rfl
               rotate_left
               · simp only [Act.put, ps1, ps2, ps3, i64_w, i32_w]; rfl
               refine pure_ (i := 2) (N := some 50) (v := ?_) (a' := ?_) #[true, false, true, false, false, false, false, false, false] rfl rfl (any_of HT_.out (by kernel_rfl)) (fun _ _ _ h => h) (Or.inl ⟨by rfl, ?_⟩) ?_ ?_
               rotate_left
               · intro w'; go_simp; with_reducible rfl
               rotate_left
               · simp only [Act.put, ps1, ps2, ps3, i64_w, i32_w]; rfl
               refine pure_ (i := 6) (N := some 54) (v := ?_) (a' := ?_) #[true, false, true, false, false, false, true, false, false] rfl rfl (any_of HT_.out (by kernel_rfl)) (fun _ _ _ h => h) (Or.inl ⟨by rfl, ?_⟩) ?_ ?_
               rotate_left
               · intro w'; go_simp; with_reducible rfl
               rotate_left
               · simp only [Act.put, ps1, ps2, ps3, i64_w, i32_w]; rfl
               refine take_ (i := 1) (N := some 49) (v := ?_) (a' := ?_) #[true, true, true, false, false, false, true, false, false] rfl rfl (take_ofW HT_.out HW_.out (by kernel_rfl)) (fun _ _ _ h => h) (Or.inl ⟨by rfl, ?_⟩) hHeld ?_ ?_
               rotate_left
               · rintro w' ⟨s0, s1, s2, s3, s4⟩; go_simp; with_reducible rfl
               rotate_left
               · simp only [Act.put, ps1, ps2, ps3, i64_w, i32_w]; rfl
               refine pure_ (i := 3) (N := some 51) (v := ?_) (a' := ?_) #[true, true, true, true, false, false, true, false, false] rfl rfl (any_of HT_.out (by kernel_rfl)) (fun _ _ _ h => h) (Or.inl ⟨by rfl, ?_⟩) ?_ ?_
               rotate_left
               · intro w'; go_simp; with_reducible rfl
               rotate_left
               · simp only [Act.put, ps1, ps2, ps3, i64_w, i32_w]; rfl
               refine pure_ (i := 4) (N := some 52) (v := ?_) (a' := ?_) #[true, true, true, true, true, false, true, false, false] rfl rfl (any_of HT_.out (by kernel_rfl)) (fun _ _ _ h => h) (Or.inl ⟨by rfl, ?_⟩) ?_ ?_
               rotate_left
               · intro w'; go_simp; with_reducible rfl
               rotate_left
               · simp only [Act.put, ps1, ps2, ps3, i64_w, i32_w]; rfl
               refine take_ (i := 5) (N := some 53) (v := ?_) (a' := ?_) #[true, true, true, true, true, true, true, false, false] rfl rfl (take_ofW HT_.out HW_.out (by kernel_rfl)) (fun _ _ _ h => h) (Or.inl ⟨by rfl, ?_⟩) hHeld ?_ ?_
               rotate_left
               · rintro w' ⟨s0, s1, s2, s3, s4⟩; go_simp; with_reducible rfl
               rotate_left
               · simp only [Act.put, ps1, ps2, ps3, i64_w, i32_w]; rfl
               refine take_ (i := 7) (N := some 55) (v := ?_) (a' := ?_) #[true, true, true, true, true, true, true, true, false] rfl rfl (take_ofW HT_.out HW_.out (by kernel_rfl)) (fun _ _ _ h => h) (Or.inl ⟨by rfl, ?_⟩) hHeld ?_ ?_
               rotate_left
               · rintro w' ⟨s0, s1, s2, s3, s4⟩; go_simp; with_reducible rfl
               rotate_left
               · simp only [Act.put, ps1, ps2, ps3, i64_w, i32_w]; rfl
               refine pure_ (i := 8) (N := some 56) (v := ?_) (a' := ?_) #[true, true, true, true, true, true, true, true, true] rfl rfl (any_of HT_.out (by kernel_rfl)) (fun _ _ _ h => h) (Or.inl ⟨by rfl, ?_⟩) ?_ ?_
               rotate_left
               · intro w'; go_simp; with_reducible rfl
               rotate_left
               · simp only [Act.put, ps1, ps2, ps3, i64_w, i32_w]; rfl
               refine done_ (done_of HT_.out (by kernel_rfl)) ?_
               try go_wp2
               go_roundg k2
               case measure => have := HK1.out; have := HK2.out; omega
               case rel => exact ⟨(wrap64 (x7_2 + 1)), (x119000_2), (u119000), t20_, H', ⟨by have := HK1.out; have := HK2.out; omega⟩, ⟨by (with_reducible repeat (first | apply Kd.R_alloc | apply Kd.R_drewN | apply Kd.R_drew)); exact HO_119000.out⟩, ⟨by (with_reducible repeat (first | refine blk_drewN ?_ _ | refine blk_drew ?_ | refine blk_alloc ?_ _)); exact BK115.out⟩, ⟨by (with_reducible repeat (first | refine blk_drewN ?_ _ | refine blk_drew ?_ | refine blk_alloc ?_ _)); exact BK116.out⟩, ⟨by (with_reducible repeat (first | refine blk_drewN ?_ _ | refine blk_drew ?_ | refine blk_alloc ?_ _)); exact BK117.out⟩, ⟨by (with_reducible repeat (first | refine blk_drewN ?_ _ | refine blk_drew ?_ | refine blk_alloc ?_ _)); exact BK118.out⟩, ⟨t21_⟩⟩
           · rw [if_neg c43] at H; exact absurd H (by simp)
         · rw [if_neg c42] at H; have c42b0 : decide (x7_2 < (l0_0.length : Int)) = false := decide_eq_false c42; clear c42; obtain rfl := Option.some.inj H; have hnb60 := NB115_116.out; have hnc60 := NB116_115.out; have hnb61 := NB115_117.out; have hnc61 := NB117_115.out; have hnb62 := NB115_118.out; have hnc62 := NB118_115.out; obtain ⟨hcz63_0, hfz63_0⟩ := ba1 BK115; have hnb64 := NB118_116.out; have hnc64 := NB116_118.out; have hnb65 := NB118_117.out; have hnc65 := NB117_118.out; obtain ⟨hcz66_0, hfz66_0⟩ := ba1 BK118; obtain ⟨Ao67, co67, eo67⟩ := Kd.R_slice HO_119000.out; subst eo67; have hnb68 := NB117_116.out; have hnc68 := NB116_117.out; obtain ⟨hcz69_0, hfz69_0⟩ := ba1 BK117; go_wp2; refine bodyPost_ret (results_cell_row rfl _ _ gb117 30 #[.slice Ao67 x119000_2.length co67] (0, 0) _ rfl (by (with_reducible repeat (first | refine blk_drewN ?_ _ | refine blk_drew ?_ | refine blk_alloc ?_ _)); refine blk_put (cs := #[.slice none 0 0]) ?_ 0 _ rfl; (with_reducible repeat (first | refine blk_drewN ?_ _ | refine blk_drew ?_ | refine blk_alloc ?_ _)); exact BK117.out) Try.underlying30 rfl (by kernel_rfl)) rfl ?_
           exact ⟨_, by first | rfl | (simp [errW_none, errW_some] <;> rfl) | (simp [*, errW_none, errW_some] <;> rfl), by (with_reducible repeat (first | apply Kd.R_alloc | apply Kd.R_drewN | apply Kd.R_drew)); exact Kd.R_mono (Kd.R_far (p := ⟨gb117, 0, none⟩) (Kd.R_types HO_119000.out BK117.out (by decide)) (fun _ hk => hk.2) (.slice Ao67 x119000_2.length co67)) (fun _ hk => trivial), t21_⟩
     · rw [if_neg c29] at H; exact absurd H (by simp)

end Go.Proofs.Ytpjhbhjmaggheaa.QFnExactCutRaws
