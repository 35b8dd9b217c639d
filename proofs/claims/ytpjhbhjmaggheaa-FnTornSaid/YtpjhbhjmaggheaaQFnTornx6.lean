-- By a program of this session, over the kit's print.
import Derived.Test.YtpjhbhjmaggheaaQFnTornx0
namespace Go.Proofs.Ytpjhbhjmaggheaa.QFnTorn
open Go.RowKit Go.Proofs.YtpjhbhjmaggheaaW.PrintWords Go.Proofs.YtpjhbhjmaggheaaW.PrintLast Go.Proofs.YtpjhbhjmaggheaaW.PrintMore
attribute [local go_sem] max2_int min2_int max_two min_two max_three min_three max_four min_four   -- for this text's walks alone
set_option linter.unusedVariables false
set_option linter.unusedSimpArgs false

/-! ### spec_l03Put: function 79 -/
mutual
def spec_l03Put.l0 : Nat → Int → List (S71) → ByteArray → ByteArray → List (S71) → Option ((List (S71)))
 | 0, _, _, _, _, _ => none
 | k + 1, x6, x228000, x229000, x229001, x231000 => if x6 < (x228000.length : Int) then (if 0 ≤ x6 then (if (Op.bytesLess (((rd_T71 x228000 x6).f0).toList) x229000.toList) = true then (if x231000.length < 4398046511104 then (spec_l03Put.l0 k (wrap64 (x6 + 1)) x228000 x229000 x229001 (x231000 ++ [(⟨(rd_T71 x228000 x6).f0, (rd_T71 x228000 x6).f1⟩ : S71)])) else (none)) else (spec_l03Put.l0 k (wrap64 (x6 + 1)) x228000 x229000 x229001 x231000)) else (none)) else (if x231000.length < 4398046511104 then (spec_l03Put.l1 k 0 x228000 x229000 x229001 (x231000 ++ [(⟨x229000, x229001⟩ : S71)])) else (none))
def spec_l03Put.l1 : Nat → Int → List (S71) → ByteArray → ByteArray → List (S71) → Option ((List (S71)))
 | 0, _, _, _, _, _ => none
 | k + 1, x7, x228000, x229000, x229001, x231000 => if x7 < (x228000.length : Int) then (if 0 ≤ x7 then (if (Op.bytesLess x229000.toList (((rd_T71 x228000 x7).f0).toList)) = true then (if x231000.length < 4398046511104 then (spec_l03Put.l1 k (wrap64 (x7 + 1)) x228000 x229000 x229001 (x231000 ++ [(⟨(rd_T71 x228000 x7).f0, (rd_T71 x228000 x7).f1⟩ : S71)])) else (none)) else (spec_l03Put.l1 k (wrap64 (x7 + 1)) x228000 x229000 x229001 x231000)) else (none)) else (some x231000)
end
def spec_l03Put.f (k : Nat) (l0_0 : List (S71)) (a1_0 : ByteArray) (a1_1 : ByteArray) : Option ((List (S71))) := spec_l03Put.l0 k 0 l0_0 a1_0 a1_1 ([] : List (S71))
theorem spec_l03Put.mono_l : ∀ k, (∀ y0 y1 y2 y3 y4, LeO (spec_l03Put.l0 k y0 y1 y2 y3 y4) (spec_l03Put.l0 (k + 1) y0 y1 y2 y3 y4)) ∧ (∀ y0 y1 y2 y3 y4, LeO (spec_l03Put.l1 k y0 y1 y2 y3 y4) (spec_l03Put.l1 (k + 1) y0 y1 y2 y3 y4))
 | 0 => ⟨fun _ _ _ _ _ r h => by simp [spec_l03Put.l0] at h, fun _ _ _ _ _ r h => by simp [spec_l03Put.l1] at h⟩
 | k + 1 => by
  obtain ⟨ih0, ih1⟩ := spec_l03Put.mono_l k; refine ⟨?_, ?_⟩
  · intro y0 y1 y2 y3 y4
    unfold spec_l03Put.l0
    repeat' first
    | (with_reducible exact ih0 _ _ _ _ _)
    | (with_reducible exact ih1 _ _ _ _ _)
    | (with_reducible exact LeO.refl _)
    | (with_reducible exact LeO.none _)
    | (with_reducible refine LeO.ite ?_ ?_)
    | (with_reducible refine LeO.bind ?_ (fun _ => ?_))
    | exact ih0 _ _ _ _ _
    | exact ih1 _ _ _ _ _
    | exact LeO.none _
    | refine LeO.ite ?_ ?_
    | refine LeO.bind ?_ (fun _ => ?_)
  · intro y0 y1 y2 y3 y4
    unfold spec_l03Put.l1
    repeat' first
    | (with_reducible exact ih0 _ _ _ _ _)
    | (with_reducible exact ih1 _ _ _ _ _)
    | (with_reducible exact LeO.refl _)
    | (with_reducible exact LeO.none _)
    | (with_reducible refine LeO.ite ?_ ?_)
    | (with_reducible refine LeO.bind ?_ (fun _ => ?_))
    | exact ih0 _ _ _ _ _
    | exact ih1 _ _ _ _ _
    | exact LeO.none _
    | refine LeO.ite ?_ ?_
    | refine LeO.bind ?_ (fun _ => ?_)
theorem spec_l03Put.mono : ∀ a0 a1 a2 k, LeO (spec_l03Put.f k a0 a1 a2) (spec_l03Put.f (k + 1) a0 a1 a2) := by
 intro a0 a1 a2 k; obtain ⟨ih0, ih1⟩ := spec_l03Put.mono_l k
 unfold spec_l03Put.f
 repeat' first
  | (with_reducible exact ih0 _ _ _ _ _)
  | (with_reducible exact ih1 _ _ _ _ _)
  | (with_reducible exact LeO.refl _)
  | (with_reducible exact LeO.none _)
  | (with_reducible refine LeO.ite ?_ ?_)
  | (with_reducible refine LeO.bind ?_ (fun _ => ?_))
  | exact ih0 _ _ _ _ _
  | exact ih1 _ _ _ _ _
  | exact LeO.none _
  | refine LeO.ite ?_ ?_
  | refine LeO.bind ?_ (fun _ => ?_)
def spec_l03Put.T5 : Bool × List (List Nat × List Nat) := (true, [([], []), ([0], [0]), ([], []), ([1, 2], [1, 2]), ([3], [3]), ([4], [4]), ([], []), ([6], [6]), ([5, 7], [5, 7])])
def spec_l03Put.B5 : List Nat := [0, 1, 0, 7, 15, 31, 0, 64, 255]
theorem spec_l03Put.tab5 : rtab .any (opsOf Try.f79 5) = spec_l03Put.T5 := by kernel_rfl
theorem spec_l03Put.bits5 : waitsOk spec_l03Put.T5.2 spec_l03Put.B5 = true := by kernel_rfl
def spec_l03Put.T6 : Bool × List (List Nat × List Nat) := (true, [([], []), ([0], [0]), ([], []), ([2], [2]), ([], []), ([3, 4], [3, 4]), ([5], [5]), ([6], [6]), ([1, 7], [1, 7]), ([0, 1, 2, 3, 4, 5, 6, 7, 8], []), ([9, 8, 8, 0, 1, 2, 3, 4, 5, 6, 7, 8], [8, 9])])
def spec_l03Put.B6 : List Nat := [0, 1, 0, 4, 0, 28, 60, 124, 255, 511, 1023]
theorem spec_l03Put.tab6 : rtab .any (opsOf Try.f79 6) = spec_l03Put.T6 := by kernel_rfl
theorem spec_l03Put.bits6 : waitsOk spec_l03Put.T6.2 spec_l03Put.B6 = true := by kernel_rfl
def spec_l03Put.T11 : Bool × List (List Nat × List Nat) := (true, [([], []), ([0], [0]), ([], []), ([1, 2], [1, 2]), ([3], [3]), ([4], [4]), ([], []), ([6], [6]), ([5, 7], [5, 7])])
def spec_l03Put.B11 : List Nat := [0, 1, 0, 7, 15, 31, 0, 64, 255]
theorem spec_l03Put.tab11 : rtab .any (opsOf Try.f79 11) = spec_l03Put.T11 := by kernel_rfl
theorem spec_l03Put.bits11 : waitsOk spec_l03Put.T11.2 spec_l03Put.B11 = true := by kernel_rfl
def spec_l03Put.T12 : Bool × List (List Nat × List Nat) := (true, [([], []), ([0], [0]), ([], []), ([2], [2]), ([], []), ([3, 4], [3, 4]), ([5], [5]), ([6], [6]), ([1, 7], [1, 7]), ([0, 1, 2, 3, 4, 5, 6, 7, 8], []), ([9, 8, 8, 0, 1, 2, 3, 4, 5, 6, 7, 8], [8, 9])])
def spec_l03Put.B12 : List Nat := [0, 1, 0, 4, 0, 28, 60, 124, 255, 511, 1023]
theorem spec_l03Put.tab12 : rtab .any (opsOf Try.f79 12) = spec_l03Put.T12 := by kernel_rfl
theorem spec_l03Put.bits12 : waitsOk spec_l03Put.T12.2 spec_l03Put.B12 = true := by kernel_rfl
set_option maxHeartbeats 8000000 in
set_option maxRecDepth 100000 in
theorem spec_l03Put.calls (k : Nat) (A0_0 : Option Addr) (c0_0 : Nat) (l0_0 : List (S71)) (a1_0 : ByteArray) (a1_1 : ByteArray) (r : List (S71)) (w : World) (hr0_0 : Kd.C k71 w A0_0 l0_0.length l0_0) (hc0_0 : l0_0.length ≤ c0_0) (h : spec_l03Put.f k l0_0 a1_0 a1_1 = some r) :
 Calls Try.prog 79 #[.agg #[.slice A0_0 l0_0.length c0_0], .agg #[.string a1_0, .string a1_1]] w fun e w' => ∃ v0_ : Value, e = .returned (.agg #[v0_]) ∧ Kd.R k71 71 w' w.heap.size (fun _ => True) v0_ r ∧ Below w.heap.size w w' := by
 have hu30 := Try.underlying30; have hu71 := Try.underlying71; have HR0_0 := Aside0.mk hr0_0; have HC0_0 := Aside0.mk hc0_0; clear hr0_0 hc0_0; have HB := Aside0.mk (Below.refl w.heap.size w); have H : (spec_l03Put.l0 k 0 l0_0 a1_0 a1_1 ([] : List (S71))) = some r := h; clear h; have H' := Aside0.mk H; clear H; go_enter Try.func79, Try.ntmps79
 go_wp2_with (first | ((with_reducible refine gate_dst (N := 2) rfl ?_); refine boxE (N := 2) (cs := #[.slice A0_0 l0_0.length c0_0]) (t := 30) (h := ?_); intro gb227 hg w3 hbox hb; have BK227 := Aside0.mk (hbox); have GW227 := Aside0.mk ((t5_ : w.heap.size ≤ gb227)); have GE227 := GW227; replace HB := bS t2_ hb; clear hb hbox hg) | ((with_reducible refine gate_dst (N := 3) rfl ?_); refine boxE (N := 3) (cs := #[.string a1_0, .string a1_1]) (t := 71) (h := ?_); intro gb228 hg w4 hbox hb; have BK228 := Aside0.mk (hbox); have GW228 := Aside0.mk ((by rw [hg]; exact (below_size (by repeat (first | (with_reducible first | exact HB.out | apply below_alloc | apply pw_below_drewN | apply below_drew1 | refine below_set ?_ GE227.out) | exact HB.out))) : w.heap.size ≤ gb228)); have GE228 := Aside0.mk ((by rw [hg]; exact (below_size (by repeat (first | (with_reducible first | exact HB.out | apply below_alloc | apply pw_below_drewN | apply below_drew1 | refine below_set ?_ GE227.out) | exact HB.out))) : w.heap.size ≤ gb228)); replace HB := Aside0.mk (below_step (by repeat (first | (with_reducible first | exact HB.out | apply below_alloc | apply pw_below_drewN | apply below_drew1 | refine below_set ?_ GE227.out) | exact HB.out)) hb); have NB227_228 := nbL BK227 hg; have NB228_227 := nbG BK227 hg; replace BK227 := bkN BK227 hb; clear hb hbox hg) | ((with_reducible refine gate_dst (N := 4) rfl ?_); refine boxE (N := 4) (cs := #[.slice none 0 0]) (t := 30) (h := ?_); intro gb229 hg w5 hbox hb; have BK229 := Aside0.mk (hbox); have GW229 := Aside0.mk ((by rw [hg]; exact (below_size (by repeat (first | (with_reducible first | exact HB.out | apply below_alloc | apply pw_below_drewN | apply below_drew1 | refine below_set ?_ GE227.out | refine below_set ?_ GE228.out) | exact HB.out))) : w.heap.size ≤ gb229)); have GE229 := Aside0.mk ((by rw [hg]; exact (below_size (by repeat (first | (with_reducible first | exact HB.out | apply below_alloc | apply pw_below_drewN | apply below_drew1 | refine below_set ?_ GE227.out | refine below_set ?_ GE228.out) | exact HB.out))) : w.heap.size ≤ gb229)); replace HB := Aside0.mk (below_step (by repeat (first | (with_reducible first | exact HB.out | apply below_alloc | apply pw_below_drewN | apply below_drew1 | refine below_set ?_ GE227.out | refine below_set ?_ GE228.out) | exact HB.out)) hb); have NB227_229 := nbL BK227 hg; have NB229_227 := nbG BK227 hg; replace BK227 := bkN BK227 hb; have NB228_229 := nbL BK228 hg; have NB229_228 := nbG BK228 hg; replace BK228 := bkN BK228 hb; clear hb hbox hg) | ((with_reducible refine gate_dst (N := 5) rfl ?_); refine boxE (N := 5) (cs := #[.slice none 0 0]) (t := 30) (h := ?_); intro gb230 hg w6 hbox hb; have BK230 := Aside0.mk (hbox); have GW230 := Aside0.mk ((by rw [hg]; exact (below_size (by repeat (first | (with_reducible first | exact HB.out | apply below_alloc | apply pw_below_drewN | apply below_drew1 | refine below_set ?_ GE227.out | refine below_set ?_ GE228.out | refine below_set ?_ GE229.out) | exact HB.out))) : w.heap.size ≤ gb230)); have GE230 := Aside0.mk ((by rw [hg]; exact (below_size (by repeat (first | (with_reducible first | exact HB.out | apply below_alloc | apply pw_below_drewN | apply below_drew1 | refine below_set ?_ GE227.out | refine below_set ?_ GE228.out | refine below_set ?_ GE229.out) | exact HB.out))) : w.heap.size ≤ gb230)); replace HB := Aside0.mk (below_step (by repeat (first | (with_reducible first | exact HB.out | apply below_alloc | apply pw_below_drewN | apply below_drew1 | refine below_set ?_ GE227.out | refine below_set ?_ GE228.out | refine below_set ?_ GE229.out) | exact HB.out)) hb); have NB227_230 := nbL BK227 hg; have NB230_227 := nbG BK227 hg; replace BK227 := bkN BK227 hb; have NB228_230 := nbL BK228 hg; have NB230_228 := nbG BK228 hg; replace BK228 := bkN BK228 hb; have NB229_230 := nbL BK229 hg; have NB230_229 := nbG BK229 hg; replace BK229 := bkN BK229 hb; clear hb hbox hg; have hnb7 := NB230_227.out; have hnc7 := NB227_230.out; have hnb8 := NB230_228.out; have hnc8 := NB228_230.out; have hnb9 := NB230_229.out; have hnc9 := NB229_230.out; obtain ⟨hcz10_0, hfz10_0⟩ := ba1 BK230))
 go_loopg [6] k (fun kq v6 w' => ∃ (x6_1 : Int) (x231000_1 : List (S71)) (u231000 : Value), v6 = .int .i64 x6_1 ∧ Aside0 (spec_l03Put.l0 kq x6_1 l0_0 a1_0 a1_1 x231000_1 = some r) ∧ Aside0 (kq ≤ k) ∧ Aside0 (Kd.R k71 71 w' w.heap.size (fun k_ => k_ ≠ gb228) u231000 x231000_1) ∧ Aside0 (w'.heap[gb227]? = some (.cells #[(.slice A0_0 l0_0.length c0_0)] 30 (0, 0))) ∧ Aside0 (w'.heap[gb228]? = some (.cells #[.string a1_0, .string a1_1] 71 (0, 0))) ∧ Aside0 (w'.heap[gb229]? = some (.cells #[(.slice none 0 0)] 30 (0, 0))) ∧ Aside0 (w'.heap[gb230]? = some (.cells #[u231000] 30 (0, 0))) ∧ Aside0 (Below w.heap.size w w'))
 case atStart => exact ⟨(0), (([] : List (S71))), (.slice none 0 0), t27_, H', ⟨Nat.le_refl _⟩, ⟨by first | exact Kd.R_nil _ _ _ _ _ | exact Kd.N_nil _ _ _ _ _ | exact Kd.V_nil _ _ _ _ _ | exact Kd.Q_nil _ _ _ _ _ | exact Kd.S_nil _ _ _ _ _⟩, ⟨zF1 BK227 NB227_230⟩, ⟨zF1 BK228 NB228_230⟩, ⟨zF1 BK229 NB229_230⟩, ⟨zP BK230⟩, ⟨t22_⟩⟩
 case round =>
  clear H'
  try clear p2
  try clear c7
  try clear c8
  try clear c9
  try clear hcz10_0
  try clear hfz10_0
  obtain ⟨x6_1, x231000_1, u231000, rfl, HA, HK1, HO_231000, BK227, BK228, BK229, BK230, HB⟩ := hrel
  cases gk with
  | zero => exact absurd HA.out (by simp [spec_l03Put.l0])
  | succ k1 =>
   have H := HA.out; clear HA; simp only [spec_l03Put.l0] at H; by_cases c11 : x6_1 < (l0_0.length : Int)
   · rw [if_pos c11] at H; have c11b0 : decide (x6_1 < (l0_0.length : Int)) = true := decide_eq_true c11; clear c11; by_cases c12 : 0 ≤ x6_1
     · rw [if_pos c12] at H; have c12b0 : decide (0 ≤ x6_1) = true := decide_eq_true c12; clear c12; by_cases c13 : (Op.bytesLess (((rd_T71 l0_0 x6_1).f0).toList) a1_0.toList) = true
       · rw [if_pos c13] at H; have c13b0 : (Op.bytesLess (((rd_T71 l0_0 x6_1).f0).toList) a1_0.toList) = true := c13; obtain ⟨c13b7, c13b6⟩ := bl_gtr_t c13b0; clear c13; by_cases c14 : x231000_1.length < 4398046511104
         · rw [if_pos c14] at H; have LMc14 := Aside0.mk c14; clear c14; obtain ⟨y233, hy233⟩ : ∃ y_ : List (S71), y_ = (x231000_1 ++ [(⟨(rd_T71 l0_0 x6_1).f0, (rd_T71 l0_0 x6_1).f1⟩ : S71)]) := ⟨_, rfl⟩; replace H : (spec_l03Put.l0 k1 (wrap64 (x6_1 + 1)) l0_0 a1_0 a1_1 y233) = some r := by first | (rw [hy233]; with_reducible exact H) | (have H2_ := (Option.bind_some _ _).symm.trans H; rw [hy233]; with_reducible exact H2_) | (have H2_ := (Option.bind_some _ _).symm.trans H; with_reducible exact H2_) | with_reducible exact H | (rw [hy233]; exact H) | exact H
           have Ny233 := Aside0.mk hy233; clear hy233; have H' := Aside0.mk H; clear H; have hnb15 := NB227_228.out; have hnc15 := NB228_227.out; have hnb16 := NB227_229.out; have hnc16 := NB229_227.out; have hnb17 := NB227_230.out; have hnc17 := NB230_227.out; obtain ⟨hcz18_0, hfz18_0⟩ := ba1 BK227
           try go_wp2
           replace HO_231000 := Aside0.mk (Kd.R_drew HO_231000.out); replace BK227 := Aside0.mk (blk_drew BK227.out); replace BK228 := Aside0.mk (blk_drew BK228.out); replace BK229 := Aside0.mk (blk_drew BK229.out); replace BK230 := Aside0.mk (blk_drew BK230.out); replace HB := Aside0.mk (below_drew1 HB.out); have p231 : 0 ≤ (x6_1 : Int) := of_decide_eq_true t7_; have q231 : x6_1 < (l0_0.length : Int) := of_decide_eq_true t7_; obtain ⟨ad231, e231, hx231_0, hx231_1⟩ := at_T71 HR0_0.out x6_1 p231 q231; have hw231_1 := hx231_1; have hw231_0 := hx231_0
           cases e231
           replace hx231_0 := cW HB hx231_0; replace hx231_1 := cW HB hx231_1; replace p231 := eq_true p231; replace q231 := eq_true q231; refine start_ (n := 9) (S := fun w' => w'.cell? ⟨gb227, 0, none⟩ = some (.slice (some ad231) l0_0.length c0_0) ∧ w'.cell? ⟨gb228, 0, none⟩ = some (.string a1_0) ∧ w'.cell? ⟨gb228, 1, none⟩ = some (.string a1_1) ∧ w'.cell? (ad231.add ((x6_1).toNat * 2)) = some (.string ((rd_T71 l0_0 x6_1).f0)) ∧ w'.cell? ⟨(ad231.add ((x6_1).toNat * 2)).block, (ad231.add ((x6_1).toNat * 2)).off + 1, none⟩ = some (.string ((rd_T71 l0_0 x6_1).f1))) (ds := []) #[false, false, false, false, false, false, false, false, false] (by kernel_rfl) rfl rfl ⟨bc0 BK227, bc0 BK228, bc1 BK228, ((HB.out.cell (World.block_lt_of_cell? w _ hw231_0)).trans hw231_0), ((HB.out.cell (World.block_lt_of_cell? w _ hw231_1)).trans hw231_1)⟩ (fun hHeld => ?_); refine with_tabW spec_l03Put.tab5 spec_l03Put.bits5 (fun HT_ HW_ => ?_)
           generalize wr.drew = w19 at HO_231000 BK227 BK228 BK229 BK230 HB hx231_0 hx231_1 hHeld ⊢; refine pure_ (i := 0) (N := some 16) (v := ?_) (a' := ?_) #[true, false, false, false, false, false, false, false, false] rfl rfl (any_of HT_.out (by kernel_rfl)) (fun _ _ _ h => h) (Or.inl ⟨by rfl, ?_⟩) ?_ ?_
           rotate_left
           · intro w'; go_simp; with_reducible rfl
           rotate_left
           · simp only [Act.put, ps1, ps2, ps3, i64_w, i32_w]; rfl
           refine pure_ (i := 2) (N := some 18) (v := ?_) (a' := ?_) #[true, false, true, false, false, false, false, false, false] rfl rfl (any_of HT_.out (by kernel_rfl)) (fun _ _ _ h => h) (Or.inl ⟨by rfl, ?_⟩) ?_ ?_
           rotate_left
           · intro w'; go_simp; with_reducible rfl
           rotate_left
           · simp only [Act.put, ps1, ps2, ps3, i64_w, i32_w]; rfl
           refine pure_ (i := 6) (N := some 22) (v := ?_) (a' := ?_) #[true, false, true, false, false, false, true, false, false] rfl rfl (any_of HT_.out (by kernel_rfl)) (fun _ _ _ h => h) (Or.inl ⟨by rfl, ?_⟩) ?_ ?_
           rotate_left
           · intro w'; go_simp; with_reducible rfl
           rotate_left
           · simp only [Act.put, ps1, ps2, ps3, i64_w, i32_w]; rfl
           refine take_ (i := 1) (N := some 17) (v := ?_) (a' := ?_) #[true, true, true, false, false, false, true, false, false] rfl rfl (take_ofW HT_.out HW_.out (by kernel_rfl)) (fun _ _ _ h => h) (Or.inl ⟨by rfl, ?_⟩) hHeld ?_ ?_
           rotate_left
           · rintro w' ⟨s0, s1, s2, s3, s4⟩; go_simp; with_reducible rfl
           rotate_left
           · simp only [Act.put, ps1, ps2, ps3, i64_w, i32_w]; rfl
           refine pure_ (i := 3) (N := some 19) (v := ?_) (a' := ?_) #[true, true, true, true, false, false, true, false, false] rfl rfl (any_of HT_.out (by kernel_rfl)) (fun _ _ _ h => h) (Or.inl ⟨by rfl, ?_⟩) ?_ ?_
           rotate_left
           · intro w'; go_simp; with_reducible rfl
           rotate_left
           · simp only [Act.put, ps1, ps2, ps3, i64_w, i32_w]; rfl
           refine pure_ (i := 4) (N := some 20) (v := ?_) (a' := ?_) #[true, true, true, true, true, false, true, false, false] rfl rfl (any_of HT_.out (by kernel_rfl)) (fun _ _ _ h => h) (Or.inl ⟨by rfl, ?_⟩) ?_ ?_
           rotate_left
           · intro w'; go_simp; with_reducible rfl
           rotate_left
           · simp only [Act.put, ps1, ps2, ps3, i64_w, i32_w]; rfl
           refine take_ (i := 5) (N := some 21) (v := ?_) (a' := ?_) #[true, true, true, true, true, true, true, false, false] rfl rfl (take_ofW HT_.out HW_.out (by kernel_rfl)) (fun _ _ _ h => h) (Or.inl ⟨by rfl, ?_⟩) hHeld ?_ ?_
           rotate_left
           · rintro w' ⟨s0, s1, s2, s3, s4⟩; go_simp; with_reducible rfl
           rotate_left
           · simp only [Act.put, ps1, ps2, ps3, i64_w, i32_w]; rfl
           refine take_ (i := 7) (N := some 23) (v := ?_) (a' := ?_) #[true, true, true, true, true, true, true, true, false] rfl rfl (take_ofW HT_.out HW_.out (by kernel_rfl)) (fun _ _ _ h => h) (Or.inl ⟨by rfl, ?_⟩) hHeld ?_ ?_
           rotate_left
           · rintro w' ⟨s0, s1, s2, s3, s4⟩; go_simp; with_reducible rfl
           rotate_left
           · simp only [Act.put, ps1, ps2, ps3, i64_w, i32_w]; rfl
           refine pure_ (i := 8) (N := some 24) (v := ?_) (a' := ?_) #[true, true, true, true, true, true, true, true, true] rfl rfl (any_of HT_.out (by kernel_rfl)) (fun _ _ _ h => h) (Or.inl ⟨by rfl, ?_⟩) ?_ ?_
           rotate_left
           · intro w'; go_simp; with_reducible rfl
           rotate_left
           · simp only [Act.put, ps1, ps2, ps3, i64_w, i32_w]; rfl
           refine done_ (done_of HT_.out (by kernel_rfl)) ?_
           try go_wp2
           replace HO_231000 := Aside0.mk (Kd.R_drew HO_231000.out); replace BK227 := Aside0.mk (blk_drew BK227.out); replace BK228 := Aside0.mk (blk_drew BK228.out); replace BK229 := Aside0.mk (blk_drew BK229.out); replace BK230 := Aside0.mk (blk_drew BK230.out); replace HB := Aside0.mk (below_drew1 HB.out); have p232 : 0 ≤ (x6_1 : Int) := of_decide_eq_true t7_; have q232 : x6_1 < (l0_0.length : Int) := of_decide_eq_true t7_; obtain ⟨ad232, e232, hx232_0, hx232_1⟩ := at_T71 HR0_0.out x6_1 p232 q232; have hw232_1 := hx232_1; have hw232_0 := hx232_0; obtain rfl : ad231 = ad232 := (by injection e232); replace hx232_0 := cW HB hx232_0; replace hx232_1 := cW HB hx232_1; replace p232 := eq_true p232; replace q232 := eq_true q232; refine start_ (n := 11) (S := fun w' => w'.cell? ⟨gb230, 0, none⟩ = some (u231000) ∧ w'.cell? ⟨gb227, 0, none⟩ = some (.slice (some ad231) l0_0.length c0_0) ∧ w'.cell? (ad231.add ((x6_1).toNat * 2)) = some (.string ((rd_T71 l0_0 x6_1).f0)) ∧ w'.cell? ⟨(ad231.add ((x6_1).toNat * 2)).block, (ad231.add ((x6_1).toNat * 2)).off + 1, none⟩ = some (.string ((rd_T71 l0_0 x6_1).f1))) (ds := [10]) #[false, false, false, false, false, false, false, false, false, false, false] (by kernel_rfl) rfl rfl ⟨bc0 BK230, bc0 BK227, ((HB.out.cell (World.block_lt_of_cell? w _ hw232_0)).trans hw232_0), ((HB.out.cell (World.block_lt_of_cell? w _ hw232_1)).trans hw232_1)⟩ (fun hHeld => ?_); refine with_tabW spec_l03Put.tab6 spec_l03Put.bits6 (fun HT_ HW_ => ?_)
           generalize w19.drew = w20 at HO_231000 BK227 BK228 BK229 BK230 HB hx232_0 hx232_1 hHeld ⊢; refine pure_ (i := 0) (N := some 25) (v := ?_) (a' := ?_) #[true, false, false, false, false, false, false, false, false, false, false] rfl rfl (any_of HT_.out (by kernel_rfl)) (fun _ _ _ h => h) (Or.inl ⟨by rfl, ?_⟩) ?_ ?_
           rotate_left
           · intro w'; go_simp; with_reducible rfl
           rotate_left
           · simp only [Act.put, ps1, ps2, ps3, i64_w, i32_w]; rfl
           refine pure_ (i := 2) (N := some 27) (v := ?_) (a' := ?_) #[true, false, true, false, false, false, false, false, false, false, false] rfl rfl (any_of HT_.out (by kernel_rfl)) (fun _ _ _ h => h) (Or.inl ⟨by rfl, ?_⟩) ?_ ?_
           rotate_left
           · intro w'; go_simp; with_reducible rfl
           rotate_left
           · simp only [Act.put, ps1, ps2, ps3, i64_w, i32_w]; rfl
           refine pure_ (i := 4) (N := some 29) (v := ?_) (a' := ?_) #[true, false, true, false, true, false, false, false, false, false, false] rfl rfl (any_of HT_.out (by kernel_rfl)) (fun _ _ _ h => h) (Or.inl ⟨by rfl, ?_⟩) ?_ ?_
           rotate_left
           · intro w'; go_simp; with_reducible rfl
           rotate_left
           · simp only [Act.put, ps1, ps2, ps3, i64_w, i32_w]; rfl
           refine take_ (i := 1) (N := some 26) (v := ?_) (a' := ?_) #[true, true, true, false, true, false, false, false, false, false, false] rfl rfl (take_ofW HT_.out HW_.out (by kernel_rfl)) (fun _ _ _ h => h) (Or.inl ⟨by rfl, ?_⟩) hHeld ?_ ?_
           rotate_left
           · rintro w' ⟨s0, s1, s2, s3⟩; go_simp; with_reducible rfl
           rotate_left
           · simp only [Act.put, ps1, ps2, ps3, i64_w, i32_w]; rfl
           refine take_ (i := 3) (N := some 28) (v := ?_) (a' := ?_) #[true, true, true, true, true, false, false, false, false, false, false] rfl rfl (take_ofW HT_.out HW_.out (by kernel_rfl)) (fun _ _ _ h => h) (Or.inl ⟨by rfl, ?_⟩) hHeld ?_ ?_
           rotate_left
           · rintro w' ⟨s0, s1, s2, s3⟩; go_simp; with_reducible rfl
           rotate_left
           · simp only [Act.put, ps1, ps2, ps3, i64_w, i32_w]; rfl
           refine pure_ (i := 5) (N := some 30) (v := ?_) (a' := ?_) #[true, true, true, true, true, true, false, false, false, false, false] rfl rfl (any_of HT_.out (by kernel_rfl)) (fun _ _ _ h => h) (Or.inl ⟨by rfl, ?_⟩) ?_ ?_
           rotate_left
           · intro w'; go_simp; with_reducible rfl
           rotate_left
           · simp only [Act.put, ps1, ps2, ps3, i64_w, i32_w]; rfl
           refine take_ (i := 6) (N := some 31) (v := ?_) (a' := ?_) #[true, true, true, true, true, true, true, false, false, false, false] rfl rfl (take_ofW HT_.out HW_.out (by kernel_rfl)) (fun _ _ _ h => h) (Or.inl ⟨by rfl, ?_⟩) hHeld ?_ ?_
           rotate_left
           · rintro w' ⟨s0, s1, s2, s3⟩; go_simp; with_reducible rfl
           rotate_left
           · simp only [Act.put, ps1, ps2, ps3, i64_w, i32_w]; rfl
           refine one_ (i := 7) (N := some 32) #[true, true, true, true, true, true, true, true, false, false, false] rfl rfl (one_of HT_.out (by kernel_rfl)) (by decide) (fun K hK => ?_)
           refine value_ (w1 := ?_) (v := ?_) (by rfl) rfl ?_ ?_
           rotate_left 2
           · go_simp
             constructor
             · rfl
             · rfl
           refine hK.out _ _ ⟨(blk_cell (blk_alloc BK230.out _) 0).trans rfl, (blk_cell (blk_alloc BK227.out _) 0).trans rfl, (World.cell?_alloc_lt _ _ _ (World.block_lt_of_cell? _ _ (((HB.out.cell (World.block_lt_of_cell? w _ hw232_0)).trans hw232_0)))).trans (((HB.out.cell (World.block_lt_of_cell? w _ hw232_0)).trans hw232_0)), (World.cell?_alloc_lt _ _ _ (World.block_lt_of_cell? _ _ (((HB.out.cell (World.block_lt_of_cell? w _ hw232_1)).trans hw232_1)))).trans (((HB.out.cell (World.block_lt_of_cell? w _ hw232_1)).trans hw232_1))⟩ (fun hHeld => ?_)
           clear hK K; refine norm_ (a' := ?_) ?_ ?_
           rotate_left
           · show Act.put _ (some 32) _ = _
             simp only [Act.put, ps1, ps2, ps3, i64_w, i32_w]; rfl
           refine one_ (i := 8) (N := some 33) #[true, true, true, true, true, true, true, true, true, false, false] rfl rfl (one_of HT_.out (by kernel_rfl)) (by decide) (fun K hK => ?_)
           refine Kd.R_append_step k71 (w0 := w) w.heap.size (by rfl) (.tmp 26) (.tmp 32) 28 71 (.agg #[(.string ⟨#[]⟩), (.string ⟨#[]⟩)]) 32 rfl Try.underlying28 info71 rfl (by decide) (by omega) u231000 x231000_1 (⟨(rd_T71 l0_0 x6_1).f0, (rd_T71 l0_0 x6_1).f1⟩ : S71) [.string ((rd_T71 l0_0 x6_1).f0), .string ((rd_T71 l0_0 x6_1).f1)] (fun k_ => k_ ≠ gb228) (fun _ => False) rfl rfl ?aP (fun _ hk => hk.elim) ?aF ?aO ?aB ?aS ?aL ?_
           (case aP => exact k71_mkM _ _ _ (⟨(rd_T71 l0_0 x6_1).f0, (rd_T71 l0_0 x6_1).f1⟩ : S71))
           (case aB => exact t22_)
           (case aF => exact (fun k_ hk => Kd.freshB (g := gb228) (o := .cells #[.string a1_0, .string a1_1] 71 (0, 0)) t85_ k_ hk))
           (case aO => exact (zK HO_231000))
           (case aS => exact (below_size t22_))
           (case aL => have := LMc14.out; omega)
           intro v234 w21 ho hb hg hat; rw [← Ny233.out] at ho; have n0_ := Aside0.mk (blk_grown (g := gb227) (o := .cells #[.slice (some ad231) l0_0.length c0_0] 30 (0, 0)) (zN BK227) hg (Kd.R_ne HO_231000.out BK227.out (by decide))); have n1_ := Aside0.mk (blk_grown (g := gb228) (o := .cells #[.string a1_0, .string a1_1] 71 (0, 0)) t85_ hg (Kd.R_away HO_231000.out (fun _ hk => hk))); have n2_ := Aside0.mk (blk_grown (g := gb229) (o := .cells #[.slice none 0 0] 30 (0, 0)) (zN BK229) hg (Kd.R_ne HO_231000.out BK229.out (by decide))); have n3_ := Aside0.mk (blk_grown (g := gb230) (o := .cells #[u231000] 30 (0, 0)) (zN BK230) hg (Kd.R_ne HO_231000.out BK230.out (by decide))); have n4_ := Aside0.mk (hb); have n5_ := Aside0.mk (ho); clear BK227; clear BK228; clear BK229; clear BK230; clear HB; clear HO_231000; have BK227 := n0_; have BK228 := n1_; have BK229 := n2_; have BK230 := n3_; have HB := n4_; have HO235 := n5_; clear n0_ n1_ n2_ n3_ n4_ n5_; clear ho hb hg hat; obtain ⟨Ao22, co22, eo22⟩ := Kd.R_slice HO235.out
           (first | subst eo22 | (injection eo22 with f1_ f2_ f3_; have f4_ := f1_.symm; have f5_ := f3_.symm; clear f1_ f2_ f3_; subst f4_; subst f5_))
           refine hK.out _ _ ⟨bc0 BK230, bc0 BK227, ((HB.out.cell (World.block_lt_of_cell? w _ hw232_0)).trans hw232_0), ((HB.out.cell (World.block_lt_of_cell? w _ hw232_1)).trans hw232_1)⟩ (fun hHeld => ?_)
           clear hK K; refine norm_ (a' := ?_) ?_ ?_
           rotate_left
           · show Act.put _ (some 33) _ = _
             simp only [Act.put, ps1, ps2, ps3, i64_w, i32_w]; rfl
           refine pure_ (i := 9) (N := some 34) (v := ?_) (a' := ?_) #[true, true, true, true, true, true, true, true, true, true, false] rfl rfl (any_of HT_.out (by kernel_rfl)) (fun _ _ _ h => h) (Or.inl ⟨by rfl, ?_⟩) ?_ ?_
           rotate_left
           · intro w'; go_simp; with_reducible rfl
           rotate_left
           · simp only [Act.put, ps1, ps2, ps3, i64_w, i32_w]; rfl
           refine last_ (i := 10) (N := none) #[true, true, true, true, true, true, true, true, true, true, true] rfl rfl (one_of HT_.out (by kernel_rfl)) (by decide) (fun K hK => ?_)
           have hs23 : w21.cell? ⟨gb230, 0, none⟩ = some (u231000) := bc0 BK230; have hfs23 := bf BK230 0; have hns23_0 := NB227_230.out; have hns23_1 := NB228_230.out; have hns23_2 := NB229_230.out; have hms23_0 := NB230_227.out; have hms23_1 := NB230_228.out; have hms23_2 := NB230_229.out; refine skip_ (w1 := ?_) (by rfl) rfl ?_ ?_
           rotate_left
           · go_simp; rfl
           refine hK.out _ _ ?_
           clear hK K; refine done_ (done_of HT_.out (by kernel_rfl)) ?_
           try go_wp2
           go_roundg k1
           case measure => have := HK1.out; omega
           case rel => exact ⟨(wrap64 (x6_1 + 1)), (y233), (.slice Ao22 y233.length co22), t27_, H', ⟨by have := HK1.out; omega⟩, ⟨by (with_reducible repeat (first | apply Kd.R_alloc | apply Kd.R_drewN | apply Kd.R_drew)); exact Kd.R_mono (Kd.R_far (p := ⟨gb230, 0, none⟩) (Kd.R_types HO235.out BK230.out (by decide)) (fun _ hk => hk.2) (.slice Ao22 y233.length co22)) (fun _ hk => hk.1)⟩, ⟨zF1 BK227 NB227_230⟩, ⟨zF1 BK228 NB228_230⟩, ⟨zF1 BK229 NB229_230⟩, ⟨zP BK230⟩, ⟨t22_⟩⟩
         · rw [if_neg c14] at H; exact absurd H (by simp)
       · rw [if_neg c13] at H; have c13b0 : (Op.bytesLess (((rd_T71 l0_0 x6_1).f0).toList) a1_0.toList) = false := by simpa using c13
         obtain ⟨c13b7, c13b6⟩ := bl_gtr_f c13b0; clear c13; have H' := Aside0.mk H; clear H; have hnb24 := NB227_228.out; have hnc24 := NB228_227.out; have hnb25 := NB227_229.out; have hnc25 := NB229_227.out; have hnb26 := NB227_230.out; have hnc26 := NB230_227.out; obtain ⟨hcz27_0, hfz27_0⟩ := ba1 BK227
         try go_wp2
         replace HO_231000 := Aside0.mk (Kd.R_drew HO_231000.out); replace BK227 := Aside0.mk (blk_drew BK227.out); replace BK228 := Aside0.mk (blk_drew BK228.out); replace BK229 := Aside0.mk (blk_drew BK229.out); replace BK230 := Aside0.mk (blk_drew BK230.out); replace HB := Aside0.mk (below_drew1 HB.out); have p231 : 0 ≤ (x6_1 : Int) := of_decide_eq_true t7_; have q231 : x6_1 < (l0_0.length : Int) := of_decide_eq_true t7_; obtain ⟨ad231, e231, hx231_0, hx231_1⟩ := at_T71 HR0_0.out x6_1 p231 q231; have hw231_1 := hx231_1; have hw231_0 := hx231_0
         cases e231
         replace hx231_0 := cW HB hx231_0; replace hx231_1 := cW HB hx231_1; replace p231 := eq_true p231; replace q231 := eq_true q231; refine start_ (n := 9) (S := fun w' => w'.cell? ⟨gb227, 0, none⟩ = some (.slice (some ad231) l0_0.length c0_0) ∧ w'.cell? ⟨gb228, 0, none⟩ = some (.string a1_0) ∧ w'.cell? ⟨gb228, 1, none⟩ = some (.string a1_1) ∧ w'.cell? (ad231.add ((x6_1).toNat * 2)) = some (.string ((rd_T71 l0_0 x6_1).f0)) ∧ w'.cell? ⟨(ad231.add ((x6_1).toNat * 2)).block, (ad231.add ((x6_1).toNat * 2)).off + 1, none⟩ = some (.string ((rd_T71 l0_0 x6_1).f1))) (ds := []) #[false, false, false, false, false, false, false, false, false] (by kernel_rfl) rfl rfl ⟨bc0 BK227, bc0 BK228, bc1 BK228, ((HB.out.cell (World.block_lt_of_cell? w _ hw231_0)).trans hw231_0), ((HB.out.cell (World.block_lt_of_cell? w _ hw231_1)).trans hw231_1)⟩ (fun hHeld => ?_); refine with_tabW spec_l03Put.tab5 spec_l03Put.bits5 (fun HT_ HW_ => ?_)
         generalize wr.drew = w28 at HO_231000 BK227 BK228 BK229 BK230 HB hx231_0 hx231_1 hHeld ⊢; refine pure_ (i := 0) (N := some 16) (v := ?_) (a' := ?_) #[true, false, false, false, false, false, false, false, false] rfl rfl (any_of HT_.out (by kernel_rfl)) (fun _ _ _ h => h) (Or.inl ⟨by rfl, ?_⟩) ?_ ?_
         rotate_left
         · intro w'; go_simp; with_reducible rfl
         rotate_left
         · simp only [Act.put, ps1, ps2, ps3, i64_w, i32_w]; rfl
         refine pure_ (i := 2) (N := some 18) (v := ?_) (a' := ?_) #[true, false, true, false, false, false, false, false, false] rfl rfl (any_of HT_.out (by kernel_rfl)) (fun _ _ _ h => h) (Or.inl ⟨by rfl, ?_⟩) ?_ ?_
         rotate_left
         · intro w'; go_simp; with_reducible rfl
         rotate_left
         · simp only [Act.put, ps1, ps2, ps3, i64_w, i32_w]; rfl
         refine pure_ (i := 6) (N := some 22) (v := ?_) (a' := ?_) #[true, false, true, false, false, false, true, false, false] rfl rfl (any_of HT_.out (by kernel_rfl)) (fun _ _ _ h => h) (Or.inl ⟨by rfl, ?_⟩) ?_ ?_
         rotate_left
         · intro w'; go_simp; with_reducible rfl
         rotate_left
         · simp only [Act.put, ps1, ps2, ps3, i64_w, i32_w]; rfl
         refine take_ (i := 1) (N := some 17) (v := ?_) (a' := ?_) #[true, true, true, false, false, false, true, false, false] rfl rfl (take_ofW HT_.out HW_.out (by kernel_rfl)) (fun _ _ _ h => h) (Or.inl ⟨by rfl, ?_⟩) hHeld ?_ ?_
         rotate_left
         · rintro w' ⟨s0, s1, s2, s3, s4⟩; go_simp; with_reducible rfl
         rotate_left
         · simp only [Act.put, ps1, ps2, ps3, i64_w, i32_w]; rfl
         refine pure_ (i := 3) (N := some 19) (v := ?_) (a' := ?_) #[true, true, true, true, false, false, true, false, false] rfl rfl (any_of HT_.out (by kernel_rfl)) (fun _ _ _ h => h) (Or.inl ⟨by rfl, ?_⟩) ?_ ?_
         rotate_left
         · intro w'; go_simp; with_reducible rfl
         rotate_left
         · simp only [Act.put, ps1, ps2, ps3, i64_w, i32_w]; rfl
         refine pure_ (i := 4) (N := some 20) (v := ?_) (a' := ?_) #[true, true, true, true, true, false, true, false, false] rfl rfl (any_of HT_.out (by kernel_rfl)) (fun _ _ _ h => h) (Or.inl ⟨by rfl, ?_⟩) ?_ ?_
         rotate_left
         · intro w'; go_simp; with_reducible rfl
         rotate_left
         · simp only [Act.put, ps1, ps2, ps3, i64_w, i32_w]; rfl
         refine take_ (i := 5) (N := some 21) (v := ?_) (a' := ?_) #[true, true, true, true, true, true, true, false, false] rfl rfl (take_ofW HT_.out HW_.out (by kernel_rfl)) (fun _ _ _ h => h) (Or.inl ⟨by rfl, ?_⟩) hHeld ?_ ?_
         rotate_left
         · rintro w' ⟨s0, s1, s2, s3, s4⟩; go_simp; with_reducible rfl
         rotate_left
         · simp only [Act.put, ps1, ps2, ps3, i64_w, i32_w]; rfl
         refine take_ (i := 7) (N := some 23) (v := ?_) (a' := ?_) #[true, true, true, true, true, true, true, true, false] rfl rfl (take_ofW HT_.out HW_.out (by kernel_rfl)) (fun _ _ _ h => h) (Or.inl ⟨by rfl, ?_⟩) hHeld ?_ ?_
         rotate_left
         · rintro w' ⟨s0, s1, s2, s3, s4⟩; go_simp; with_reducible rfl
         rotate_left
         · simp only [Act.put, ps1, ps2, ps3, i64_w, i32_w]; rfl
         refine pure_ (i := 8) (N := some 24) (v := ?_) (a' := ?_) #[true, true, true, true, true, true, true, true, true] rfl rfl (any_of HT_.out (by kernel_rfl)) (fun _ _ _ h => h) (Or.inl ⟨by rfl, ?_⟩) ?_ ?_
         rotate_left
         · intro w'; go_simp; with_reducible rfl
         rotate_left
         · simp only [Act.put, ps1, ps2, ps3, i64_w, i32_w]; rfl
         refine done_ (done_of HT_.out (by kernel_rfl)) ?_
         try go_wp2
         go_roundg k1
         case measure => have := HK1.out; omega
         case rel => exact ⟨(wrap64 (x6_1 + 1)), (x231000_1), (u231000), t27_, H', ⟨by have := HK1.out; omega⟩, ⟨zK HO_231000⟩, ⟨zN BK227⟩, ⟨zN BK228⟩, ⟨zN BK229⟩, ⟨zN BK230⟩, ⟨t22_⟩⟩
     · rw [if_neg c12] at H; exact absurd H (by simp)
   · rw [if_neg c11] at H; have c11b0 : decide (x6_1 < (l0_0.length : Int)) = false := decide_eq_false c11; clear c11; by_cases c29 : x231000_1.length < 4398046511104
     · rw [if_pos c29] at H; have LMc29 := Aside0.mk c29; clear c29; obtain ⟨y236, hy236⟩ : ∃ y_ : List (S71), y_ = (x231000_1 ++ [(⟨a1_0, a1_1⟩ : S71)]) := ⟨_, rfl⟩; replace H : (spec_l03Put.l1 k1 0 l0_0 a1_0 a1_1 y236) = some r := by first | (rw [hy236]; with_reducible exact H) | (have H2_ := (Option.bind_some _ _).symm.trans H; rw [hy236]; with_reducible exact H2_) | (have H2_ := (Option.bind_some _ _).symm.trans H; with_reducible exact H2_) | with_reducible exact H | (rw [hy236]; exact H) | exact H
       have Ny236 := Aside0.mk hy236; clear hy236; have H' := Aside0.mk H; clear H; have hnb30 := NB227_228.out; have hnc30 := NB228_227.out; have hnb31 := NB227_229.out; have hnc31 := NB229_227.out; have hnb32 := NB227_230.out; have hnc32 := NB230_227.out; obtain ⟨hcz33_0, hfz33_0⟩ := ba1 BK227; have hnb34 := NB230_228.out; have hnc34 := NB228_230.out; have hnb35 := NB230_229.out; have hnc35 := NB229_230.out; obtain ⟨hcz36_0, hfz36_0⟩ := ba1 BK230; have hnb37 := NB228_229.out; have hnc37 := NB229_228.out; obtain ⟨hcz38_0, hcz38_1, hfz38_0, hfz38_1⟩ := ba2 BK228
       go_wp2_with (first | ((with_reducible refine gate_builtin (b := .append) (xs := #[.tmp 36, .tmp 38]) rfl ?_); at_builtin; refine Kd.R_append k71 (w0 := w) w.heap.size rfl (.tmp 36) (.tmp 38) 28 71 (.agg #[(.string ⟨#[]⟩), (.string ⟨#[]⟩)]) 32 rfl Try.underlying28 info71 rfl (by decide) (by omega) u231000 x231000_1 (⟨a1_0, a1_1⟩ : S71) [.string a1_0, .string a1_1] (fun k_ => k_ ≠ gb228) (fun _ => False) rfl rfl ?aP (fun _ hk => hk.elim) ?aF ?aO ?aB ?aS ?aL ?_; (case aP => exact k71_mkM _ _ _ (⟨a1_0, a1_1⟩ : S71)); (case aB => exact t22_); (case aF => exact (fun k_ hk => Kd.freshB (g := gb228) (o := .cells #[.string a1_0, .string a1_1] 71 (0, 0)) t85_ k_ hk)); (case aO => exact (zK HO_231000)); (case aS => exact (below_size t22_)); (case aL => have := LMc29.out; omega); intro v237 w39 ho hb hg hat; rw [← Ny236.out] at ho; have n0_ := Aside0.mk (blk_grown (g := gb227) (o := .cells #[.slice A0_0 l0_0.length c0_0] 30 (0, 0)) (zN BK227) hg (Kd.R_ne HO_231000.out BK227.out (by decide))); have n1_ := Aside0.mk (blk_grown (g := gb228) (o := .cells #[.string a1_0, .string a1_1] 71 (0, 0)) t85_ hg (Kd.R_away HO_231000.out (fun _ hk => hk))); have n2_ := Aside0.mk (blk_grown (g := gb229) (o := .cells #[.slice none 0 0] 30 (0, 0)) (zN BK229) hg (Kd.R_ne HO_231000.out BK229.out (by decide))); have n3_ := Aside0.mk (blk_grown (g := gb230) (o := .cells #[u231000] 30 (0, 0)) (zN BK230) hg (Kd.R_ne HO_231000.out BK230.out (by decide))); have n4_ := Aside0.mk (hb); have n5_ := Aside0.mk (ho); clear BK227; clear BK228; clear BK229; clear BK230; clear HB; clear HO_231000; have BK227 := n0_; have BK228 := n1_; have BK229 := n2_; have BK230 := n3_; have HB := n4_; have HO238 := n5_; clear n0_ n1_ n2_ n3_ n4_ n5_; clear ho hb hg hat; obtain ⟨Ao40, co40, eo40⟩ := Kd.R_slice HO238.out; subst eo40; obtain ⟨hcz41_0, hfz41_0⟩ := ba1 BK230))
       go_loopg [7] k1 (fun kq v7 w' => ∃ (x7_2 : Int) (x231000_2 : List (S71)) (u231000 : Value), v7 = .int .i64 x7_2 ∧ Aside0 (spec_l03Put.l1 kq x7_2 l0_0 a1_0 a1_1 x231000_2 = some r) ∧ Aside0 (kq ≤ k1) ∧ Aside0 (Kd.R k71 71 w' w.heap.size (fun k_ => k_ ≠ gb228) u231000 x231000_2) ∧ Aside0 (w'.heap[gb227]? = some (.cells #[(.slice A0_0 l0_0.length c0_0)] 30 (0, 0))) ∧ Aside0 (w'.heap[gb228]? = some (.cells #[.string a1_0, .string a1_1] 71 (0, 0))) ∧ Aside0 (w'.heap[gb229]? = some (.cells #[(.slice none 0 0)] 30 (0, 0))) ∧ Aside0 (w'.heap[gb230]? = some (.cells #[u231000] 30 (0, 0))) ∧ Aside0 (Below w.heap.size w w'))
       case atStart => exact ⟨(0), (y236), (.slice Ao40 y236.length co40), t27_, H', ⟨Nat.le_refl _⟩, ⟨by (with_reducible repeat (first | apply Kd.R_alloc | apply Kd.R_drewN | apply Kd.R_drew)); exact Kd.R_mono (Kd.R_far (p := ⟨gb230, 0, none⟩) (Kd.R_types HO238.out BK230.out (by decide)) (fun _ hk => hk.2) (.slice Ao40 y236.length co40)) (fun _ hk => hk.1)⟩, ⟨zF1 BK227 NB227_230⟩, ⟨zF1 BK228 NB228_230⟩, ⟨zF1 BK229 NB229_230⟩, ⟨zP BK230⟩, ⟨t22_⟩⟩
       case round =>
        clear H'
        try clear c1
        try clear c2
        try clear p2
        try clear q2
        try clear hx2
        try clear c3
        try clear p6
        try clear c7
        try clear c8
        try clear c9
        try clear c11
        try clear c11b0
        try clear c12
        try clear c12b0
        try clear c13
        try clear c13b0
        try clear c14
        try clear c15
        try clear c16
        try clear c17
        try clear p23
        try clear q23
        try clear hx23
        try clear c24
        try clear c25
        try clear c26
        try clear c29
        try clear c30
        try clear c31
        try clear c32
        try clear c34
        try clear c35
        try clear c37
        try clear hcz10_0
        try clear hcz18_0
        try clear hcz27_0
        try clear hcz33_0
        try clear hcz36_0
        try clear hcz38_0
        try clear hcz38_1
        try clear hcz41_0
        try clear hfz10_0
        try clear hfz18_0
        try clear hfz27_0
        try clear hfz33_0
        try clear hfz36_0
        try clear hfz38_0
        try clear hfz38_1
        try clear hfz41_0
        try clear hx231_0
        try clear hx231_1
        try clear hx232_0
        try clear hx232_1
        try clear p2
        try clear p231
        try clear p232
        try clear q231
        try clear q232
        obtain ⟨x7_2, x231000_2, u231000, rfl, HA, HK2, HO_231000, BK227, BK228, BK229, BK230, HB⟩ := hrel
        cases gk with
        | zero => exact absurd HA.out (by simp [spec_l03Put.l1])
        | succ k2 =>
         have H := HA.out; clear HA; simp only [spec_l03Put.l1] at H; by_cases c42 : x7_2 < (l0_0.length : Int)
         · rw [if_pos c42] at H; have c42b0 : decide (x7_2 < (l0_0.length : Int)) = true := decide_eq_true c42; clear c42; by_cases c43 : 0 ≤ x7_2
           · rw [if_pos c43] at H; have c43b0 : decide (0 ≤ x7_2) = true := decide_eq_true c43; clear c43; by_cases c44 : (Op.bytesLess a1_0.toList (((rd_T71 l0_0 x7_2).f0).toList)) = true
             · rw [if_pos c44] at H; have c44b0 : (Op.bytesLess a1_0.toList (((rd_T71 l0_0 x7_2).f0).toList)) = true := c44; obtain ⟨c44b7, c44b6⟩ := bl_gtr_t c44b0; clear c44; by_cases c45 : x231000_2.length < 4398046511104
               · rw [if_pos c45] at H; have LMc45 := Aside0.mk c45; clear c45; obtain ⟨y241, hy241⟩ : ∃ y_ : List (S71), y_ = (x231000_2 ++ [(⟨(rd_T71 l0_0 x7_2).f0, (rd_T71 l0_0 x7_2).f1⟩ : S71)]) := ⟨_, rfl⟩; replace H : (spec_l03Put.l1 k2 (wrap64 (x7_2 + 1)) l0_0 a1_0 a1_1 y241) = some r := by first | (rw [hy241]; with_reducible exact H) | (have H2_ := (Option.bind_some _ _).symm.trans H; rw [hy241]; with_reducible exact H2_) | (have H2_ := (Option.bind_some _ _).symm.trans H; with_reducible exact H2_) | with_reducible exact H | (rw [hy241]; exact H) | exact H
                 have Ny241 := Aside0.mk hy241; clear hy241; have H' := Aside0.mk H; clear H; have hnb46 := NB227_228.out; have hnc46 := NB228_227.out; have hnb47 := NB227_229.out; have hnc47 := NB229_227.out; have hnb48 := NB227_230.out; have hnc48 := NB230_227.out; obtain ⟨hcz49_0, hfz49_0⟩ := ba1 BK227
                 try go_wp2
                 replace HO_231000 := Aside0.mk (Kd.R_drew HO_231000.out); replace BK227 := Aside0.mk (blk_drew BK227.out); replace BK228 := Aside0.mk (blk_drew BK228.out); replace BK229 := Aside0.mk (blk_drew BK229.out); replace BK230 := Aside0.mk (blk_drew BK230.out); replace HB := Aside0.mk (below_drew1 HB.out); have p239 : 0 ≤ (x7_2 : Int) := of_decide_eq_true t7_; have q239 : x7_2 < (l0_0.length : Int) := of_decide_eq_true t7_; obtain ⟨ad239, e239, hx239_0, hx239_1⟩ := at_T71 HR0_0.out x7_2 p239 q239; have hw239_1 := hx239_1; have hw239_0 := hx239_0
                 cases e239
                 replace hx239_0 := cW HB hx239_0; replace hx239_1 := cW HB hx239_1; replace p239 := eq_true p239; replace q239 := eq_true q239; refine start_ (n := 9) (S := fun w' => w'.cell? ⟨gb227, 0, none⟩ = some (.slice (some ad239) l0_0.length c0_0) ∧ w'.cell? ⟨gb228, 0, none⟩ = some (.string a1_0) ∧ w'.cell? ⟨gb228, 1, none⟩ = some (.string a1_1) ∧ w'.cell? (ad239.add ((x7_2).toNat * 2)) = some (.string ((rd_T71 l0_0 x7_2).f0)) ∧ w'.cell? ⟨(ad239.add ((x7_2).toNat * 2)).block, (ad239.add ((x7_2).toNat * 2)).off + 1, none⟩ = some (.string ((rd_T71 l0_0 x7_2).f1))) (ds := []) #[false, false, false, false, false, false, false, false, false] (by kernel_rfl) rfl rfl ⟨bc0 BK227, bc0 BK228, bc1 BK228, ((HB.out.cell (World.block_lt_of_cell? w _ hw239_0)).trans hw239_0), ((HB.out.cell (World.block_lt_of_cell? w _ hw239_1)).trans hw239_1)⟩ (fun hHeld => ?_); refine with_tabW spec_l03Put.tab11 spec_l03Put.bits11 (fun HT_ HW_ => ?_)
                 generalize wr.drew = w50 at HO_231000 BK227 BK228 BK229 BK230 HB hx239_0 hx239_1 hHeld ⊢; refine pure_ (i := 0) (N := some 48) (v := ?_) (a' := ?_) #[true, false, false, false, false, false, false, false, false] rfl rfl (any_of HT_.out (by kernel_rfl)) (fun _ _ _ h => h) (Or.inl ⟨by rfl, ?_⟩) ?_ ?_
                 rotate_left
                 · intro w'; go_simp; with_reducible rfl
                 rotate_left
                 · simp only [Act.put, ps1, ps2, ps3, i64_w, i32_w]; rfl
                 refine pure_ (i := 2) (N := some 50) (v := ?_) (a' := ?_) #[true, false, true, false, false, false, false, false, false] rfl rfl (any_of HT_.out (by kernel_rfl)) (fun _ _ _ h => h) (Or.inl ⟨by rfl, ?_⟩) ?_ ?_
                 rotate_left
                 · intro w'; go_simp; with_reducible rfl
                 rotate_left
                 · simp only [Act.put, ps1, ps2, ps3, i64_w, i32_w]; rfl
                 refine pure_ (i := 6) (N := some 54) (v := ?_) (a' := ?_) #[true, false, true, false, false, false, true, false, false] rfl rfl (any_of HT_.out (by kernel_rfl)) (fun _ _ _ h => h) (Or.inl ⟨by rfl, ?_⟩) ?_ ?_
                 rotate_left
                 · intro w'; go_simp; with_reducible rfl
                 rotate_left
                 · simp only [Act.put, ps1, ps2, ps3, i64_w, i32_w]; rfl
                 refine take_ (i := 1) (N := some 49) (v := ?_) (a' := ?_) #[true, true, true, false, false, false, true, false, false] rfl rfl (take_ofW HT_.out HW_.out (by kernel_rfl)) (fun _ _ _ h => h) (Or.inl ⟨by rfl, ?_⟩) hHeld ?_ ?_
                 rotate_left
                 · rintro w' ⟨s0, s1, s2, s3, s4⟩; go_simp; with_reducible rfl
                 rotate_left
                 · simp only [Act.put, ps1, ps2, ps3, i64_w, i32_w]; rfl
                 refine pure_ (i := 3) (N := some 51) (v := ?_) (a' := ?_) #[true, true, true, true, false, false, true, false, false] rfl rfl (any_of HT_.out (by kernel_rfl)) (fun _ _ _ h => h) (Or.inl ⟨by rfl, ?_⟩) ?_ ?_
                 rotate_left
                 · intro w'; go_simp; with_reducible rfl
                 rotate_left
                 · simp only [Act.put, ps1, ps2, ps3, i64_w, i32_w]; rfl
                 refine pure_ (i := 4) (N := some 52) (v := ?_) (a' := ?_) #[true, true, true, true, true, false, true, false, false] rfl rfl (any_of HT_.out (by kernel_rfl)) (fun _ _ _ h => h) (Or.inl ⟨by rfl, ?_⟩) ?_ ?_
                 rotate_left
                 · intro w'; go_simp; with_reducible rfl
                 rotate_left
                 · simp only [Act.put, ps1, ps2, ps3, i64_w, i32_w]; rfl
                 refine take_ (i := 5) (N := some 53) (v := ?_) (a' := ?_) #[true, true, true, true, true, true, true, false, false] rfl rfl (take_ofW HT_.out HW_.out (by kernel_rfl)) (fun _ _ _ h => h) (Or.inl ⟨by rfl, ?_⟩) hHeld ?_ ?_
                 rotate_left
                 · rintro w' ⟨s0, s1, s2, s3, s4⟩; go_simp; with_reducible rfl
                 rotate_left
                 · simp only [Act.put, ps1, ps2, ps3, i64_w, i32_w]; rfl
                 refine take_ (i := 7) (N := some 55) (v := ?_) (a' := ?_) #[true, true, true, true, true, true, true, true, false] rfl rfl (take_ofW HT_.out HW_.out (by kernel_rfl)) (fun _ _ _ h => h) (Or.inl ⟨by rfl, ?_⟩) hHeld ?_ ?_
                 rotate_left
                 · rintro w' ⟨s0, s1, s2, s3, s4⟩; go_simp; with_reducible rfl
                 rotate_left
                 · simp only [Act.put, ps1, ps2, ps3, i64_w, i32_w]; rfl
                 refine pure_ (i := 8) (N := some 56) (v := ?_) (a' := ?_) #[true, true, true, true, true, true, true, true, true] rfl rfl (any_of HT_.out (by kernel_rfl)) (fun _ _ _ h => h) (Or.inl ⟨by rfl, ?_⟩) ?_ ?_
                 rotate_left
                 · intro w'; go_simp; with_reducible rfl
                 rotate_left
                 · simp only [Act.put, ps1, ps2, ps3, i64_w, i32_w]; rfl
                 refine done_ (done_of HT_.out (by kernel_rfl)) ?_
                 try go_wp2
                 replace HO_231000 := Aside0.mk (Kd.R_drew HO_231000.out); replace BK227 := Aside0.mk (blk_drew BK227.out); replace BK228 := Aside0.mk (blk_drew BK228.out); replace BK229 := Aside0.mk (blk_drew BK229.out); replace BK230 := Aside0.mk (blk_drew BK230.out); replace HB := Aside0.mk (below_drew1 HB.out); have p240 : 0 ≤ (x7_2 : Int) := of_decide_eq_true t7_; have q240 : x7_2 < (l0_0.length : Int) := of_decide_eq_true t7_; obtain ⟨ad240, e240, hx240_0, hx240_1⟩ := at_T71 HR0_0.out x7_2 p240 q240; have hw240_1 := hx240_1; have hw240_0 := hx240_0; obtain rfl : ad239 = ad240 := (by injection e240); replace hx240_0 := cW HB hx240_0; replace hx240_1 := cW HB hx240_1; replace p240 := eq_true p240; replace q240 := eq_true q240; refine start_ (n := 11) (S := fun w' => w'.cell? ⟨gb230, 0, none⟩ = some (u231000) ∧ w'.cell? ⟨gb227, 0, none⟩ = some (.slice (some ad239) l0_0.length c0_0) ∧ w'.cell? (ad239.add ((x7_2).toNat * 2)) = some (.string ((rd_T71 l0_0 x7_2).f0)) ∧ w'.cell? ⟨(ad239.add ((x7_2).toNat * 2)).block, (ad239.add ((x7_2).toNat * 2)).off + 1, none⟩ = some (.string ((rd_T71 l0_0 x7_2).f1))) (ds := [10]) #[false, false, false, false, false, false, false, false, false, false, false] (by kernel_rfl) rfl rfl ⟨bc0 BK230, bc0 BK227, ((HB.out.cell (World.block_lt_of_cell? w _ hw240_0)).trans hw240_0), ((HB.out.cell (World.block_lt_of_cell? w _ hw240_1)).trans hw240_1)⟩ (fun hHeld => ?_); refine with_tabW spec_l03Put.tab12 spec_l03Put.bits12 (fun HT_ HW_ => ?_)
                 generalize w50.drew = w51 at HO_231000 BK227 BK228 BK229 BK230 HB hx240_0 hx240_1 hHeld ⊢; refine pure_ (i := 0) (N := some 57) (v := ?_) (a' := ?_) #[true, false, false, false, false, false, false, false, false, false, false] rfl rfl (any_of HT_.out (by kernel_rfl)) (fun _ _ _ h => h) (Or.inl ⟨by rfl, ?_⟩) ?_ ?_
                 rotate_left
                 · intro w'; go_simp; with_reducible rfl
                 rotate_left
                 · simp only [Act.put, ps1, ps2, ps3, i64_w, i32_w]; rfl
                 refine pure_ (i := 2) (N := some 59) (v := ?_) (a' := ?_) #[true, false, true, false, false, false, false, false, false, false, false] rfl rfl (any_of HT_.out (by kernel_rfl)) (fun _ _ _ h => h) (Or.inl ⟨by rfl, ?_⟩) ?_ ?_
                 rotate_left
                 · intro w'; go_simp; with_reducible rfl
                 rotate_left
                 · simp only [Act.put, ps1, ps2, ps3, i64_w, i32_w]; rfl
                 refine pure_ (i := 4) (N := some 61) (v := ?_) (a' := ?_) #[true, false, true, false, true, false, false, false, false, false, false] rfl rfl (any_of HT_.out (by kernel_rfl)) (fun _ _ _ h => h) (Or.inl ⟨by rfl, ?_⟩) ?_ ?_
                 rotate_left
                 · intro w'; go_simp; with_reducible rfl
                 rotate_left
                 · simp only [Act.put, ps1, ps2, ps3, i64_w, i32_w]; rfl
                 refine take_ (i := 1) (N := some 58) (v := ?_) (a' := ?_) #[true, true, true, false, true, false, false, false, false, false, false] rfl rfl (take_ofW HT_.out HW_.out (by kernel_rfl)) (fun _ _ _ h => h) (Or.inl ⟨by rfl, ?_⟩) hHeld ?_ ?_
                 rotate_left
                 · rintro w' ⟨s0, s1, s2, s3⟩; go_simp; with_reducible rfl
                 rotate_left
                 · simp only [Act.put, ps1, ps2, ps3, i64_w, i32_w]; rfl
                 refine take_ (i := 3) (N := some 60) (v := ?_) (a' := ?_) #[true, true, true, true, true, false, false, false, false, false, false] rfl rfl (take_ofW HT_.out HW_.out (by kernel_rfl)) (fun _ _ _ h => h) (Or.inl ⟨by rfl, ?_⟩) hHeld ?_ ?_
                 rotate_left
                 · rintro w' ⟨s0, s1, s2, s3⟩; go_simp; with_reducible rfl
                 rotate_left
                 · simp only [Act.put, ps1, ps2, ps3, i64_w, i32_w]; rfl
                 refine pure_ (i := 5) (N := some 62) (v := ?_) (a' := ?_) #[true, true, true, true, true, true, false, false, false, false, false] rfl rfl (any_of HT_.out (by kernel_rfl)) (fun _ _ _ h => h) (Or.inl ⟨by rfl, ?_⟩) ?_ ?_
                 rotate_left
                 · intro w'; go_simp; with_reducible rfl
                 rotate_left
                 · simp only [Act.put, ps1, ps2, ps3, i64_w, i32_w]; rfl
                 refine take_ (i := 6) (N := some 63) (v := ?_) (a' := ?_) #[true, true, true, true, true, true, true, false, false, false, false] rfl rfl (take_ofW HT_.out HW_.out (by kernel_rfl)) (fun _ _ _ h => h) (Or.inl ⟨by rfl, ?_⟩) hHeld ?_ ?_
                 rotate_left
                 · rintro w' ⟨s0, s1, s2, s3⟩; go_simp; with_reducible rfl
                 rotate_left
                 · simp only [Act.put, ps1, ps2, ps3, i64_w, i32_w]; rfl
                 refine one_ (i := 7) (N := some 64) #[true, true, true, true, true, true, true, true, false, false, false] rfl rfl (one_of HT_.out (by kernel_rfl)) (by decide) (fun K hK => ?_)
                 refine value_ (w1 := ?_) (v := ?_) (by rfl) rfl ?_ ?_
                 rotate_left 2
                 · go_simp
                   constructor
                   · rfl
                   · rfl
                 refine hK.out _ _ ⟨(blk_cell (blk_alloc BK230.out _) 0).trans rfl, (blk_cell (blk_alloc BK227.out _) 0).trans rfl, (World.cell?_alloc_lt _ _ _ (World.block_lt_of_cell? _ _ (((HB.out.cell (World.block_lt_of_cell? w _ hw240_0)).trans hw240_0)))).trans (((HB.out.cell (World.block_lt_of_cell? w _ hw240_0)).trans hw240_0)), (World.cell?_alloc_lt _ _ _ (World.block_lt_of_cell? _ _ (((HB.out.cell (World.block_lt_of_cell? w _ hw240_1)).trans hw240_1)))).trans (((HB.out.cell (World.block_lt_of_cell? w _ hw240_1)).trans hw240_1))⟩ (fun hHeld => ?_)
                 clear hK K; refine norm_ (a' := ?_) ?_ ?_
                 rotate_left
                 · show Act.put _ (some 64) _ = _
                   simp only [Act.put, ps1, ps2, ps3, i64_w, i32_w]; rfl
                 refine one_ (i := 8) (N := some 65) #[true, true, true, true, true, true, true, true, true, false, false] rfl rfl (one_of HT_.out (by kernel_rfl)) (by decide) (fun K hK => ?_)
                 refine Kd.R_append_step k71 (w0 := w) w.heap.size (by rfl) (.tmp 58) (.tmp 64) 28 71 (.agg #[(.string ⟨#[]⟩), (.string ⟨#[]⟩)]) 32 rfl Try.underlying28 info71 rfl (by decide) (by omega) u231000 x231000_2 (⟨(rd_T71 l0_0 x7_2).f0, (rd_T71 l0_0 x7_2).f1⟩ : S71) [.string ((rd_T71 l0_0 x7_2).f0), .string ((rd_T71 l0_0 x7_2).f1)] (fun k_ => k_ ≠ gb228) (fun _ => False) rfl rfl ?aP (fun _ hk => hk.elim) ?aF ?aO ?aB ?aS ?aL ?_
                 (case aP => exact k71_mkM _ _ _ (⟨(rd_T71 l0_0 x7_2).f0, (rd_T71 l0_0 x7_2).f1⟩ : S71))
                 (case aB => exact t22_)
                 (case aF => exact (fun k_ hk => Kd.freshB (g := gb228) (o := .cells #[.string a1_0, .string a1_1] 71 (0, 0)) t85_ k_ hk))
                 (case aO => exact (zK HO_231000))
                 (case aS => exact (below_size t22_))
                 (case aL => have := LMc45.out; omega)
                 intro v242 w52 ho hb hg hat; rw [← Ny241.out] at ho; have n0_ := Aside0.mk (blk_grown (g := gb227) (o := .cells #[.slice (some ad239) l0_0.length c0_0] 30 (0, 0)) (zN BK227) hg (Kd.R_ne HO_231000.out BK227.out (by decide))); have n1_ := Aside0.mk (blk_grown (g := gb228) (o := .cells #[.string a1_0, .string a1_1] 71 (0, 0)) t85_ hg (Kd.R_away HO_231000.out (fun _ hk => hk))); have n2_ := Aside0.mk (blk_grown (g := gb229) (o := .cells #[.slice none 0 0] 30 (0, 0)) (zN BK229) hg (Kd.R_ne HO_231000.out BK229.out (by decide))); have n3_ := Aside0.mk (blk_grown (g := gb230) (o := .cells #[u231000] 30 (0, 0)) (zN BK230) hg (Kd.R_ne HO_231000.out BK230.out (by decide))); have n4_ := Aside0.mk (hb); have n5_ := Aside0.mk (ho); clear BK227; clear BK228; clear BK229; clear BK230; clear HB; clear HO_231000; have BK227 := n0_; have BK228 := n1_; have BK229 := n2_; have BK230 := n3_; have HB := n4_; have HO243 := n5_; clear n0_ n1_ n2_ n3_ n4_ n5_; clear ho hb hg hat; obtain ⟨Ao53, co53, eo53⟩ := Kd.R_slice HO243.out
                 (first | subst eo53 | (injection eo53 with f1_ f2_ f3_; have f4_ := f1_.symm; have f5_ := f3_.symm; clear f1_ f2_ f3_; subst f4_; subst f5_))
                 refine hK.out _ _ ⟨bc0 BK230, bc0 BK227, ((HB.out.cell (World.block_lt_of_cell? w _ hw240_0)).trans hw240_0), ((HB.out.cell (World.block_lt_of_cell? w _ hw240_1)).trans hw240_1)⟩ (fun hHeld => ?_)
                 clear hK K; refine norm_ (a' := ?_) ?_ ?_
                 rotate_left
                 · show Act.put _ (some 65) _ = _
                   simp only [Act.put, ps1, ps2, ps3, i64_w, i32_w]; rfl
                 refine pure_ (i := 9) (N := some 66) (v := ?_) (a' := ?_) #[true, true, true, true, true, true, true, true, true, true, false] rfl rfl (any_of HT_.out (by kernel_rfl)) (fun _ _ _ h => h) (Or.inl ⟨by rfl, ?_⟩) ?_ ?_
                 rotate_left
                 · intro w'; go_simp; with_reducible rfl
                 rotate_left
                 · simp only [Act.put, ps1, ps2, ps3, i64_w, i32_w]; rfl
                 refine last_ (i := 10) (N := none) #[true, true, true, true, true, true, true, true, true, true, true] rfl rfl (one_of HT_.out (by kernel_rfl)) (by decide) (fun K hK => ?_)
                 have hs54 : w52.cell? ⟨gb230, 0, none⟩ = some (u231000) := bc0 BK230; have hfs54 := bf BK230 0; have hns54_0 := NB227_230.out; have hns54_1 := NB228_230.out; have hns54_2 := NB229_230.out; have hms54_0 := NB230_227.out; have hms54_1 := NB230_228.out; have hms54_2 := NB230_229.out; refine skip_ (w1 := ?_) (by rfl) rfl ?_ ?_
                 rotate_left
                 · go_simp; rfl
                 refine hK.out _ _ ?_
                 clear hK K; refine done_ (done_of HT_.out (by kernel_rfl)) ?_
                 try go_wp2
                 go_roundg k2
                 case measure => have := HK1.out; have := HK2.out; omega
                 case rel => exact ⟨(wrap64 (x7_2 + 1)), (y241), (.slice Ao53 y241.length co53), t27_, H', ⟨by have := HK1.out; have := HK2.out; omega⟩, ⟨by (with_reducible repeat (first | apply Kd.R_alloc | apply Kd.R_drewN | apply Kd.R_drew)); exact Kd.R_mono (Kd.R_far (p := ⟨gb230, 0, none⟩) (Kd.R_types HO243.out BK230.out (by decide)) (fun _ hk => hk.2) (.slice Ao53 y241.length co53)) (fun _ hk => hk.1)⟩, ⟨zF1 BK227 NB227_230⟩, ⟨zF1 BK228 NB228_230⟩, ⟨zF1 BK229 NB229_230⟩, ⟨zP BK230⟩, ⟨t22_⟩⟩
               · rw [if_neg c45] at H; exact absurd H (by simp)
             · rw [if_neg c44] at H; have c44b0 : (Op.bytesLess a1_0.toList (((rd_T71 l0_0 x7_2).f0).toList)) = false := by simpa using c44
               obtain ⟨c44b7, c44b6⟩ := bl_gtr_f c44b0; clear c44; have H' := Aside0.mk H; clear H; have hnb55 := NB227_228.out; have hnc55 := NB228_227.out; have hnb56 := NB227_229.out; have hnc56 := NB229_227.out; have hnb57 := NB227_230.out; have hnc57 := NB230_227.out; obtain ⟨hcz58_0, hfz58_0⟩ := ba1 BK227
               try go_wp2
               replace HO_231000 := Aside0.mk (Kd.R_drew HO_231000.out); replace BK227 := Aside0.mk (blk_drew BK227.out); replace BK228 := Aside0.mk (blk_drew BK228.out); replace BK229 := Aside0.mk (blk_drew BK229.out); replace BK230 := Aside0.mk (blk_drew BK230.out); replace HB := Aside0.mk (below_drew1 HB.out); have p239 : 0 ≤ (x7_2 : Int) := of_decide_eq_true t7_; have q239 : x7_2 < (l0_0.length : Int) := of_decide_eq_true t7_; obtain ⟨ad239, e239, hx239_0, hx239_1⟩ := at_T71 HR0_0.out x7_2 p239 q239; have hw239_1 := hx239_1; have hw239_0 := hx239_0
               cases e239
               replace hx239_0 := cW HB hx239_0; replace hx239_1 := cW HB hx239_1; replace p239 := eq_true p239; replace q239 := eq_true q239; refine start_ (n := 9) (S := fun w' => w'.cell? ⟨gb227, 0, none⟩ = some (.slice (some ad239) l0_0.length c0_0) ∧ w'.cell? ⟨gb228, 0, none⟩ = some (.string a1_0) ∧ w'.cell? ⟨gb228, 1, none⟩ = some (.string a1_1) ∧ w'.cell? (ad239.add ((x7_2).toNat * 2)) = some (.string ((rd_T71 l0_0 x7_2).f0)) ∧ w'.cell? ⟨(ad239.add ((x7_2).toNat * 2)).block, (ad239.add ((x7_2).toNat * 2)).off + 1, none⟩ = some (.string ((rd_T71 l0_0 x7_2).f1))) (ds := []) #[false, false, false, false, false, false, false, false, false] (by kernel_rfl) rfl rfl ⟨bc0 BK227, bc0 BK228, bc1 BK228, ((HB.out.cell (World.block_lt_of_cell? w _ hw239_0)).trans hw239_0), ((HB.out.cell (World.block_lt_of_cell? w _ hw239_1)).trans hw239_1)⟩ (fun hHeld => ?_); refine with_tabW spec_l03Put.tab11 spec_l03Put.bits11 (fun HT_ HW_ => ?_)
               generalize wr.drew = w59 at HO_231000 BK227 BK228 BK229 BK230 HB hx239_0 hx239_1 hHeld ⊢; refine pure_ (i := 0) (N := some 48) (v := ?_) (a' := ?_) #[true, false, false, false, false, false, false, false, false] rfl rfl (any_of HT_.out (by kernel_rfl)) (fun _ _ _ h => h) (Or.inl ⟨by rfl, ?_⟩) ?_ ?_
               rotate_left
               · intro w'; go_simp; with_reducible rfl
               rotate_left
               · simp only [Act.put, ps1, ps2, ps3, i64_w, i32_w]; rfl
               refine pure_ (i := 2) (N := some 50) (v := ?_) (a' := ?_) #[true, false, true, false, false, false, false, false, false] rfl rfl (any_of HT_.out (by kernel_rfl)) (fun _ _ _ h => h) (Or.inl ⟨by rfl, ?_⟩) ?_ ?_
               rotate_left
               · intro w'; go_simp; with_reducible rfl
               rotate_left
               · simp only [Act.put, ps1, ps2, ps3, i64_w, i32_w]; rfl
               refine pure_ (i := 6) (N := some 54) (v := ?_) (a' := ?_) #[true, false, true, false, false, false, true, false, false] rfl rfl (any_of HT_.out (by kernel_rfl)) (fun _ _ _ h => h) (Or.inl ⟨by rfl, ?_⟩) ?_ ?_
               rotate_left
               · intro w'; go_simp; with_reducible rfl
               rotate_left
               · simp only [Act.put, ps1, ps2, ps3, i64_w, i32_w]; rfl
               refine take_ (i := 1) (N := some 49) (v := ?_) (a' := ?_) #[true, true, true, false, false, false, true, false, false] rfl rfl (take_ofW HT_.out HW_.out (by kernel_rfl)) (fun _ _ _ h => h) (Or.inl ⟨by rfl, ?_⟩) hHeld ?_ ?_
               rotate_left
               · rintro w' ⟨s0, s1, s2, s3, s4⟩; go_simp; with_reducible rfl
               rotate_left
               · simp only [Act.put, ps1, ps2, ps3, i64_w, i32_w]; rfl
               refine pure_ (i := 3) (N := some 51) (v := ?_) (a' := ?_) #[true, true, true, true, false, false, true, false, false] rfl rfl (any_of HT_.out (by kernel_rfl)) (fun _ _ _ h => h) (Or.inl ⟨by rfl, ?_⟩) ?_ ?_
               rotate_left
               · intro w'; go_simp; with_reducible rfl
               rotate_left
               · simp only [Act.put, ps1, ps2, ps3, i64_w, i32_w]; rfl
               refine pure_ (i := 4) (N := some 52) (v := ?_) (a' := ?_) #[true, true, true, true, true, false, true, false, false] rfl rfl (any_of HT_.out (by kernel_rfl)) (fun _ _ _ h => h) (Or.inl ⟨by rfl, ?_⟩) ?_ ?_
               rotate_left
               · intro w'; go_simp; with_reducible rfl
               rotate_left
               · simp only [Act.put, ps1, ps2, ps3, i64_w, i32_w]; rfl
               refine take_ (i := 5) (N := some 53) (v := ?_) (a' := ?_) #[true, true, true, true, true, true, true, false, false] rfl rfl (take_ofW HT_.out HW_.out (by kernel_rfl)) (fun _ _ _ h => h) (Or.inl ⟨by rfl, ?_⟩) hHeld ?_ ?_
               rotate_left
               · rintro w' ⟨s0, s1, s2, s3, s4⟩; go_simp; with_reducible rfl
               rotate_left
               · simp only [Act.put, ps1, ps2, ps3, i64_w, i32_w]; rfl
               refine take_ (i := 7) (N := some 55) (v := ?_) (a' := ?_) #[true, true, true, true, true, true, true, true, false] rfl rfl (take_ofW HT_.out HW_.out (by kernel_rfl)) (fun _ _ _ h => h) (Or.inl ⟨by rfl, ?_⟩) hHeld ?_ ?_
               rotate_left
               · rintro w' ⟨s0, s1, s2, s3, s4⟩; go_simp; with_reducible rfl
               rotate_left
               · simp only [Act.put, ps1, ps2, ps3, i64_w, i32_w]; rfl
               refine pure_ (i := 8) (N := some 56) (v := ?_) (a' := ?_) #[true, true, true, true, true, true, true, true, true] rfl rfl (any_of HT_.out (by kernel_rfl)) (fun _ _ _ h => h) (Or.inl ⟨by rfl, ?_⟩) ?_ ?_
               rotate_left
               · intro w'; go_simp; with_reducible rfl
               rotate_left
               · simp only [Act.put, ps1, ps2, ps3, i64_w, i32_w]; rfl
               refine done_ (done_of HT_.out (by kernel_rfl)) ?_
               try go_wp2
               go_roundg k2
               case measure => have := HK1.out; have := HK2.out; omega
               case rel => exact ⟨(wrap64 (x7_2 + 1)), (x231000_2), (u231000), t27_, H', ⟨by have := HK1.out; have := HK2.out; omega⟩, ⟨zK HO_231000⟩, ⟨zN BK227⟩, ⟨zN BK228⟩, ⟨zN BK229⟩, ⟨zN BK230⟩, ⟨t22_⟩⟩
           · rw [if_neg c43] at H; exact absurd H (by simp)
         · rw [if_neg c42] at H; have c42b0 : decide (x7_2 < (l0_0.length : Int)) = false := decide_eq_false c42; clear c42; obtain rfl := Option.some.inj H; have hnb60 := NB227_228.out; have hnc60 := NB228_227.out; have hnb61 := NB227_229.out; have hnc61 := NB229_227.out; have hnb62 := NB227_230.out; have hnc62 := NB230_227.out; obtain ⟨hcz63_0, hfz63_0⟩ := ba1 BK227; have hnb64 := NB230_228.out; have hnc64 := NB228_230.out; have hnb65 := NB230_229.out; have hnc65 := NB229_230.out; obtain ⟨hcz66_0, hfz66_0⟩ := ba1 BK230; obtain ⟨Ao67, co67, eo67⟩ := Kd.R_slice HO_231000.out; subst eo67; have hnb68 := NB229_228.out; have hnc68 := NB228_229.out; obtain ⟨hcz69_0, hfz69_0⟩ := ba1 BK229; go_wp2; refine bodyPost_ret (results_cell_row rfl _ _ gb229 30 #[.slice Ao67 x231000_2.length co67] (0, 0) _ rfl (zP BK229) Try.underlying30 rfl (by kernel_rfl)) rfl ?_
           exact ⟨_, by first | rfl | (simp [errW_none, errW_some] <;> rfl) | (simp [*, errW_none, errW_some] <;> rfl), by (with_reducible repeat (first | apply Kd.R_alloc | apply Kd.R_drewN | apply Kd.R_drew)); exact Kd.R_mono (Kd.R_far (p := ⟨gb229, 0, none⟩) (Kd.R_types HO_231000.out BK229.out (by decide)) (fun _ hk => hk.2) (.slice Ao67 x231000_2.length co67)) (fun _ hk => trivial), t22_⟩
     · rw [if_neg c29] at H; exact absurd H (by simp)

end Go.Proofs.Ytpjhbhjmaggheaa.QFnTorn
