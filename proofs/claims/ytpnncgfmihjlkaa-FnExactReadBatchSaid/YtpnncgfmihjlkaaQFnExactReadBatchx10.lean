-- By a program of this session, over the kit's print.
import Derived.Test.YtpnncgfmihjlkaaQFnExactReadBatchx0
import Derived.Test.YtpnncgfmihjlkaaQFnExactReadBatchx7
import Derived.Test.YtpnncgfmihjlkaaQFnExactReadBatchx9
namespace Go.Proofs.Ytpnncgfmihjlkaa.QFnExactReadBatch
open Go.RowKit Go.Proofs.YtpnncgfmihjlkaaW.PrintWords Go.Proofs.YtpnncgfmihjlkaaW.PrintLast Go.Proofs.YtpnncgfmihjlkaaW.PrintMore
attribute [local go_sem] max2_int min2_int max_two min_two max_three min_three max_four min_four   -- for this text's walks alone
set_option linter.unusedVariables false
set_option linter.unusedSimpArgs false

theorem IsS86.same {w0 W W' : World} {g : Nat} {f0 : ByteArray} {f1 : Int} {f2 : Bool} (H : Aside0 (IsS86 w0 W g f0 f1 f2)) (h : IsS86 w0 W' g f0 f1 f2) : IsS86 w0 W' g f0 f1 f2 := h
/-! ### spec_ReadBatch: function 34 -/
mutual
def spec_ReadBatch.l0 : Nat → ByteArray → Int → Int → ByteArray → Int → Bool → Int → List (S80) → Option (Int × (List (S80)) × Bool)
 | 0, _, _, _, _, _, _, _, _ => none
 | k + 1, x0, x6, x7, x195000, x195001, x195002, x196000, x196001 => if x7 < x6 then (spec_ReadBatch.j1 k x0 x6 x7 (!x195002) x195000 x195001 x195002 x196000 x196001) else (spec_ReadBatch.j1 k x0 x6 x7 false x195000 x195001 x195002 x196000 x196001)
def spec_ReadBatch.j1 : Nat → ByteArray → Int → Int → Bool → ByteArray → Int → Bool → Int → List (S80) → Option (Int × (List (S80)) × Bool)
 | 0, _, _, _, _, _, _, _, _, _ => none
 | k + 1, x0, x6, x7, x29, x195000, x195001, x195002, x196000, x196001 => if x29 = true then ((spec_l05ReadShort.f k x195000 x195001 x195002).bind fun bt205 => ((spec_l05Take.f bt205.2.1 bt205.2.2.1 bt205.2.2.2 1).bind fun bt209 => ((spec_l05ReadShort.f k bt209.2.1 bt209.2.2.1 bt209.2.2.2).bind fun bt213 => (if x196001.length < 3518437208883 then (spec_ReadBatch.l0 k x0 x6 (wrap64 (x7 + 1)) bt213.2.1 bt213.2.2.1 bt213.2.2.2 x196000 (x196001 ++ [(⟨bt205.1, bt213.1, (bt209.1.toList == ([1] : List UInt8))⟩ : S80)])) else (none))))) else ((spec_BatchText.f k x196000 x196001).bind fun bt220 => (if x195002 = true then (some (0, ([] : List (S80)), false)) else (if bt220.2 = true then (if bt220.1.toList = x0.toList then (some (x196000, x196001, true)) else (some (0, ([] : List (S80)), false))) else (some (0, ([] : List (S80)), false)))))
end
def spec_ReadBatch.f (k : Nat) (a0 : ByteArray) : Option (Int × (List (S80)) × Bool) := (spec_l05Var.f k a0 0 false).bind fun bt196 => ((spec_l05Var.f k bt196.2.1 bt196.2.2.1 bt196.2.2.2).bind fun bt200 => (spec_ReadBatch.l0 k a0 bt200.1 0 bt200.2.1 bt200.2.2.1 bt200.2.2.2 bt196.1 ([] : List (S80))))
theorem spec_ReadBatch.mono_l : ∀ k, (∀ y0 y1 y2 y3 y4 y5 y6 y7, LeO (spec_ReadBatch.l0 k y0 y1 y2 y3 y4 y5 y6 y7) (spec_ReadBatch.l0 (k + 1) y0 y1 y2 y3 y4 y5 y6 y7)) ∧ (∀ y0 y1 y2 y3 y4 y5 y6 y7 y8, LeO (spec_ReadBatch.j1 k y0 y1 y2 y3 y4 y5 y6 y7 y8) (spec_ReadBatch.j1 (k + 1) y0 y1 y2 y3 y4 y5 y6 y7 y8))
 | 0 => ⟨fun _ _ _ _ _ _ _ _ r h => by simp [spec_ReadBatch.l0] at h, fun _ _ _ _ _ _ _ _ _ r h => by simp [spec_ReadBatch.j1] at h⟩
 | k + 1 => by
  obtain ⟨ih0, ih1⟩ := spec_ReadBatch.mono_l k; refine ⟨?_, ?_⟩
  · intro y0 y1 y2 y3 y4 y5 y6 y7
    unfold spec_ReadBatch.l0
    repeat' first
    | (with_reducible exact ih0 _ _ _ _ _ _ _ _)
    | (with_reducible exact ih1 _ _ _ _ _ _ _ _ _)
    | (with_reducible exact spec_BatchText.mono _ _ _)
    | (with_reducible exact spec_l05ReadShort.mono _ _ _ _)
    | (with_reducible exact spec_l05Var.mono _ _ _ _)
    | (with_reducible exact LeO.refl _)
    | (with_reducible exact LeO.none _)
    | (with_reducible refine LeO.ite ?_ ?_)
    | (with_reducible refine LeO.bind ?_ (fun _ => ?_))
    | exact ih0 _ _ _ _ _ _ _ _
    | exact ih1 _ _ _ _ _ _ _ _ _
    | exact spec_BatchText.mono _ _ _
    | exact spec_l05ReadShort.mono _ _ _ _
    | exact spec_l05Var.mono _ _ _ _
    | exact LeO.none _
    | refine LeO.ite ?_ ?_
    | refine LeO.bind ?_ (fun _ => ?_)
  · intro y0 y1 y2 y3 y4 y5 y6 y7 y8
    unfold spec_ReadBatch.j1
    repeat' first
    | (with_reducible exact ih0 _ _ _ _ _ _ _ _)
    | (with_reducible exact ih1 _ _ _ _ _ _ _ _ _)
    | (with_reducible exact spec_BatchText.mono _ _ _)
    | (with_reducible exact spec_l05ReadShort.mono _ _ _ _)
    | (with_reducible exact spec_l05Var.mono _ _ _ _)
    | (with_reducible exact LeO.refl _)
    | (with_reducible exact LeO.none _)
    | (with_reducible refine LeO.ite ?_ ?_)
    | (with_reducible refine LeO.bind ?_ (fun _ => ?_))
    | exact ih0 _ _ _ _ _ _ _ _
    | exact ih1 _ _ _ _ _ _ _ _ _
    | exact spec_BatchText.mono _ _ _
    | exact spec_l05ReadShort.mono _ _ _ _
    | exact spec_l05Var.mono _ _ _ _
    | exact LeO.none _
    | refine LeO.ite ?_ ?_
    | refine LeO.bind ?_ (fun _ => ?_)
theorem spec_ReadBatch.mono : ∀ a0 k, LeO (spec_ReadBatch.f k a0) (spec_ReadBatch.f (k + 1) a0) := by
 intro a0 k; obtain ⟨ih0, ih1⟩ := spec_ReadBatch.mono_l k
 unfold spec_ReadBatch.f
 repeat' first
  | (with_reducible exact ih0 _ _ _ _ _ _ _ _)
  | (with_reducible exact ih1 _ _ _ _ _ _ _ _ _)
  | (with_reducible exact spec_BatchText.mono _ _ _)
  | (with_reducible exact spec_l05ReadShort.mono _ _ _ _)
  | (with_reducible exact spec_l05Var.mono _ _ _ _)
  | (with_reducible exact LeO.refl _)
  | (with_reducible exact LeO.none _)
  | (with_reducible refine LeO.ite ?_ ?_)
  | (with_reducible refine LeO.bind ?_ (fun _ => ?_))
  | exact ih0 _ _ _ _ _ _ _ _
  | exact ih1 _ _ _ _ _ _ _ _ _
  | exact spec_BatchText.mono _ _ _
  | exact spec_l05ReadShort.mono _ _ _ _
  | exact spec_l05Var.mono _ _ _ _
  | exact LeO.none _
  | refine LeO.ite ?_ ?_
  | refine LeO.bind ?_ (fun _ => ?_)
set_option maxHeartbeats 8000000 in
set_option maxRecDepth 100000 in
theorem spec_ReadBatch.calls (k : Nat) (a0 : ByteArray) (r1 : Int) (r2 : List (S80)) (r3 : Bool) (w : World) (h : spec_ReadBatch.f k a0 = some (r1, r2, r3)) :
 Calls Try.prog 34 #[.string a0] w fun e w' => ∃ v1_ : Value, e = .returned (.tuple #[.agg #[.int .i64 r1, v1_], .bool r3]) ∧ Kd.R k80 80 w' w.heap.size (fun _ => True) v1_ r2 ∧ Below w.heap.size w w' := by
 have hu46 := Try.underlying46; have hu86 := Try.underlying86; have hu80 := Try.underlying80; have HB := Aside0.mk (Below.refl w.heap.size w); have H : ((spec_l05Var.f k a0 0 false).bind fun bt196 => ((spec_l05Var.f k bt196.2.1 bt196.2.2.1 bt196.2.2.2).bind fun bt200 => (spec_ReadBatch.l0 k a0 bt200.1 0 bt200.2.1 bt200.2.2.1 bt200.2.2.2 bt196.1 ([] : List (S80))))) = some (r1, r2, r3) := h; clear h; replace H := Option.bind_eq_some_iff.mp H; obtain ⟨⟨t196, t197, t198, t199⟩, A20, H⟩ := H; replace H : ((spec_l05Var.f k t197 t198 t199).bind fun bt200 => (spec_ReadBatch.l0 k a0 bt200.1 0 bt200.2.1 bt200.2.2.1 bt200.2.2.2 t196 ([] : List (S80)))) = some (r1, r2, r3) := H; have A2 := Aside0.mk A20; clear A20; replace H := Option.bind_eq_some_iff.mp H; obtain ⟨⟨t200, t201, t202, t203⟩, A30, H⟩ := H; replace H : (spec_ReadBatch.l0 k a0 t200 0 t201 t202 t203 t196 ([] : List (S80))) = some (r1, r2, r3) := H; have A3 := Aside0.mk A30; clear A30; have H' := Aside0.mk H; clear H; go_enter Try.func34, Try.ntmps34
 go_wp2_with (first | ((with_reducible refine gate_dst (N := 2) rfl ?_); refine boxE (N := 2) (cs := #[.int .i64 0, .slice none 0 0]) (t := 46) (h := ?_); intro gb193 hg w4 hbox hb; have BK193 := Aside0.mk (hbox); have GW193 := Aside0.mk ((t7_ : w.heap.size ≤ gb193)); have GE193 := GW193; replace HB := bS t0_ hb; clear hb hbox hg) | ((with_reducible refine gate_dst (N := 13) rfl ?_); refine boxE (N := 13) (cs := #[.string a0, .int .i64 0, .bool false]) (t := 86) (h := ?_); intro gb194 hg w5 hbox hb; have NB193_194 := nbL BK193 hg; have NB194_193 := nbG BK193 hg; replace BK193 := bkN BK193 hb; have HI194 := Aside0.mk ((show IsS86 w w5 gb194 a0 0 false from ⟨hbox, (by rw [hg]; exact (below_size (by repeat (first | (with_reducible first | exact HB.out | apply below_alloc | apply pw_below_drewN | apply below_drew1 | refine below_set ?_ GE193.out) | exact HB.out))) : w.heap.size ≤ gb194)⟩)); replace HB := Aside0.mk (below_step (by repeat (first | (with_reducible first | exact HB.out | apply below_alloc | apply pw_below_drewN | apply below_drew1 | refine below_set ?_ GE193.out) | exact HB.out)) hb); clear hb hbox hg) | ((with_reducible refine gate_dst (N := 5) rfl ?_); refine boxE (N := 5) (cs := #[.int .i64 0, .slice none 0 0]) (t := 46) (h := ?_); intro gb195 hg w6 hbox hb; have BK195 := Aside0.mk (hbox); have GW195 := Aside0.mk ((by rw [hg]; exact (below_size (by repeat (first | (with_reducible first | exact HB.out | apply below_alloc | apply pw_below_drewN | apply below_drew1 | refine below_set ?_ (IsS86.ge HI194.out) | refine below_set ?_ GE193.out) | exact HB.out))) : w.heap.size ≤ gb195)); have GE195 := Aside0.mk ((by rw [hg]; exact (below_size (by repeat (first | (with_reducible first | exact HB.out | apply below_alloc | apply pw_below_drewN | apply below_drew1 | refine below_set ?_ (IsS86.ge HI194.out) | refine below_set ?_ GE193.out) | exact HB.out))) : w.heap.size ≤ gb195)); replace HB := Aside0.mk (below_step (by repeat (first | (with_reducible first | exact HB.out | apply below_alloc | apply pw_below_drewN | apply below_drew1 | refine below_set ?_ (IsS86.ge HI194.out) | refine below_set ?_ GE193.out) | exact HB.out)) hb); have NB193_195 := nbL BK193 hg; have NB195_193 := nbG BK193 hg; replace BK193 := bkN BK193 hb; have NB194_195 := Aside0.mk ((by rw [hg]; exact Nat.ne_of_lt (IsS86.lt (show IsS86 w _ gb194 a0 0 false from by repeat (first | (with_reducible first | exact HI194.out | apply IsS86.alloc | apply IsS86.drewN | apply IsS86.drew | apply IsS86.set_0 | apply IsS86.set_1 | apply IsS86.set_2 | refine IsS86.far ?_ NB194_193.out _) | exact HI194.out))) : gb194 ≠ gb195)); have NB195_194 := Aside0.mk ((by rw [hg]; exact Nat.ne_of_gt (IsS86.lt (show IsS86 w _ gb194 a0 0 false from by repeat (first | (with_reducible first | exact HI194.out | apply IsS86.alloc | apply IsS86.drewN | apply IsS86.drew | apply IsS86.set_0 | apply IsS86.set_1 | apply IsS86.set_2 | refine IsS86.far ?_ NB194_193.out _) | exact HI194.out))) : gb195 ≠ gb194)); replace HI194 := Aside0.mk (IsS86.below (by repeat (first | (with_reducible first | exact HI194.out | apply IsS86.alloc | apply IsS86.drewN | apply IsS86.drew | apply IsS86.set_0 | apply IsS86.set_1 | apply IsS86.set_2 | refine IsS86.far ?_ NB194_193.out _) | exact HI194.out)) hb); clear hb hbox hg; have hnb7 := NB195_193.out; have hnc7 := NB193_195.out; have hnb8 := NB195_194.out; have hnc8 := NB194_195.out; obtain ⟨hcz9_0, hcz9_1, hfz9_0, hfz9_1⟩ := ba2 BK195) | ((with_reducible refine gate_callee (f := 70) rfl ?_); refine goesL_ (some 16) rfl rfl Try.func70 (by kernel_rfl) rfl #[.pointer (some ⟨gb194, 0, none⟩)] rfl t5_ ?_; (with_reducible refine (spec_l05Var.calls k gb194 a0 0 false t196 t197 t198 t199 w _ ?side1 ?side2 A2.out).mono ?_); (case side1 => repeat (first | (with_reducible first | exact HI194.out | apply IsS86.alloc | apply IsS86.drewN | apply IsS86.drew | apply IsS86.set_0 | apply IsS86.set_1 | apply IsS86.set_2 | refine IsS86.far ?_ NB194_193.out _ | refine IsS86.far ?_ NB194_195.out _) | exact HI194.out)); (case side2 => repeat (first | (with_reducible first | exact HB.out | apply below_alloc | apply pw_below_drewN | apply below_drew1 | refine below_set ?_ (IsS86.ge HI194.out) | refine below_set ?_ GE193.out | refine below_set ?_ GE195.out) | exact HB.out)); rintro e w10 ⟨rfl, hi, hb, hk⟩; refine ⟨_, rfl, ?_⟩; replace BK193 := Aside0.mk (KeepBut.blk hk (g' := gb193) (o := .cells #[.int .i64 0, .slice none 0 0] 46 (0, 0)) (zF2 BK193 NB193_195 NB193_195) NB193_194.out (by simp)); replace BK195 := Aside0.mk (KeepBut.blk hk (g' := gb195) (o := .cells #[.int .i64 0, .slice none 0 0] 46 (0, 0)) (zQ2 BK195) NB195_194.out (by simp)); replace HB := Aside0.mk (hb); replace HI194 := Aside0.mk (hi); (try clear hb); (try clear hk); (try clear hi); obtain ⟨hcz11_0, hcz11_1, hfz11_0, hfz11_1⟩ := ba2 BK195) | ((with_reducible refine gate_callee (f := 70) rfl ?_); refine goesL_ (some 19) rfl rfl Try.func70 (by kernel_rfl) rfl #[.pointer (some ⟨gb194, 0, none⟩)] rfl t5_ ?_; (with_reducible refine (spec_l05Var.calls k gb194 t197 t198 t199 t200 t201 t202 t203 w _ ?side1 ?side2 A3.out).mono ?_); (case side1 => repeat (first | (with_reducible first | exact HI194.out | apply IsS86.alloc | apply IsS86.drewN | apply IsS86.drew | apply IsS86.set_0 | apply IsS86.set_1 | apply IsS86.set_2 | refine IsS86.far ?_ NB194_193.out _ | refine IsS86.far ?_ NB194_195.out _) | exact HI194.out)); (case side2 => repeat (first | (with_reducible first | exact HB.out | apply below_alloc | apply pw_below_drewN | apply below_drew1 | refine below_set ?_ (IsS86.ge HI194.out) | refine below_set ?_ GE193.out | refine below_set ?_ GE195.out) | exact HB.out)); rintro e w12 ⟨rfl, hi, hb, hk⟩; refine ⟨_, rfl, ?_⟩; replace BK193 := Aside0.mk (KeepBut.blk hk (g' := gb193) (o := .cells #[.int .i64 0, .slice none 0 0] 46 (0, 0)) (zF1 BK193 NB193_195) NB193_194.out (by simp)); replace BK195 := Aside0.mk (KeepBut.blk hk (g' := gb195) (o := .cells #[.int .i64 t196, .slice none 0 0] 46 (0, 0)) (zP BK195) NB195_194.out (by simp)); replace HB := Aside0.mk (hb); replace HI194 := Aside0.mk (hi); (try clear hb); (try clear hk); (try clear hi)))
 go_loopg [7] k (fun kq v7 w' => ∃ (x7_1 : Int) (x195000_1 : ByteArray) (x195001_1 : Int) (x195002_1 : Bool) (x196001_1 : List (S80)) (u196001 : Value), v7 = .int .i64 x7_1 ∧ Aside0 (spec_ReadBatch.l0 kq a0 t200 x7_1 x195000_1 x195001_1 x195002_1 t196 x196001_1 = some (r1, r2, r3)) ∧ Aside0 (kq ≤ k) ∧ Aside0 (Kd.R k80 80 w' w.heap.size (fun _ => True) u196001 x196001_1) ∧ Aside0 (w'.heap[gb193]? = some (.cells #[.int .i64 0, (.slice none 0 0)] 46 (0, 0))) ∧ Aside0 (w'.heap[gb195]? = some (.cells #[.int .i64 t196, u196001] 46 (0, 0))) ∧ Aside0 (IsS86 w w' gb194 x195000_1 x195001_1 x195002_1) ∧ Aside0 (Below w.heap.size w w'))
 case atStart => exact ⟨(0), (t201), (t202), (t203), (([] : List (S80))), (.slice none 0 0), t10_, H', ⟨Nat.le_refl _⟩, ⟨by first | exact Kd.R_nil _ _ _ _ _ | exact Kd.N_nil _ _ _ _ _ | exact Kd.V_nil _ _ _ _ _ | exact Kd.Q_nil _ _ _ _ _ | exact Kd.S_nil _ _ _ _ _⟩, ⟨zN BK193⟩, ⟨zN BK195⟩, ⟨t13_⟩, ⟨t9_⟩⟩
 case round =>
  clear H'
  try clear p2
  try clear c3
  try clear c7
  try clear c8
  try clear hcz11_0
  try clear hcz11_1
  try clear hcz9_0
  try clear hcz9_1
  try clear hfz11_0
  try clear hfz11_1
  try clear hfz9_0
  try clear hfz9_1
  obtain ⟨x7_1, x195000_1, x195001_1, x195002_1, x196001_1, u196001, rfl, HA, HK1, HO_196001, BK193, BK195, HI194, HB⟩ := hrel
  cases gk with
  | zero => exact absurd HA.out (by simp [spec_ReadBatch.l0])
  | succ k1 =>
   have H := HA.out; clear HA; simp only [spec_ReadBatch.l0] at H; have HC13 := Aside0.mk H; clear H
   go_upto_region 6 with (fail)
   go_cut [29] (fun v29 wc => ∃ (kq : Nat) (x29_12 : Bool), v29 = .bool x29_12 ∧ Aside0 (spec_ReadBatch.j1 kq a0 t200 x7_1 x29_12 x195000_1 x195001_1 x195002_1 t196 x196001_1 = some (r1, r2, r3)) ∧ Aside0 (kq ≤ k1) ∧ Aside0 (Kd.R k80 80 wc w.heap.size (fun _ => True) u196001 x196001_1) ∧ Aside0 (wc.heap[gb193]? = some (.cells #[.int .i64 0, (.slice none 0 0)] 46 (0, 0))) ∧ Aside0 (wc.heap[gb195]? = some (.cells #[.int .i64 t196, u196001] 46 (0, 0))) ∧ Aside0 (IsS86 w wc gb194 x195000_1 x195001_1 x195002_1) ∧ Aside0 (Below w.heap.size w wc))
   case first =>
    have H := HC13.out; clear HC13; by_cases c14 : x7_1 < t200
    · rw [if_pos c14] at H; have c14b0 : decide (x7_1 < t200) = true := decide_eq_true c14; clear c14
      (first | rw [c14b0] | (simp only [i64_w, i32_w]; rw [c14b0]) | skip)
      have H' := Aside0.mk H; clear H; obtain ⟨HGz15, hgz15⟩ := HI194.out; have hcz15_0 := cellS86_0 HGz15; have hcz15_1 := cellS86_1 HGz15; have hcz15_2 := cellS86_2 HGz15; have hfz15_0 := blk_frozen HGz15 0; have hfz15_1 := blk_frozen HGz15 1; have hfz15_2 := blk_frozen HGz15 2; clear HGz15 hgz15; go_wp2; go_meet
      case rel => exact ⟨_, (!x195002_1), t10_, H', ⟨by have := HK1.out; first | omega | exact Nat.le_refl _⟩, ⟨zK HO_196001⟩, ⟨zN BK193⟩, ⟨zN BK195⟩, ⟨t13_⟩, ⟨t9_⟩⟩
    · rw [if_neg c14] at H; have c14b0 : decide (x7_1 < t200) = false := decide_eq_false c14; clear c14
      (first | rw [c14b0] | (simp only [i64_w, i32_w]; rw [c14b0]) | skip)
      have H' := Aside0.mk H; clear H; go_wp2; go_meet
      case rel => exact ⟨_, (false), t10_, H', ⟨by have := HK1.out; first | omega | exact Nat.le_refl _⟩, ⟨zK HO_196001⟩, ⟨zN BK193⟩, ⟨zN BK195⟩, ⟨t13_⟩, ⟨t9_⟩⟩
   case rest =>
    clear HC13
    try clear c1
    try clear p2
    try clear c3
    try clear c7
    try clear c8
    try clear c14
    try clear c14b0
    try clear hcz11_0
    try clear hcz11_1
    try clear hcz15_0
    try clear hcz15_1
    try clear hcz15_2
    try clear hcz9_0
    try clear hcz9_1
    try clear hfz11_0
    try clear hfz11_1
    try clear hfz15_0
    try clear hfz15_1
    try clear hfz15_2
    try clear hfz9_0
    try clear hfz9_1
    try clear p2
    obtain ⟨kq, x29_12, rfl, HA, HJ12, HO_196001, BK193, BK195, HI194, HB⟩ := hcut
    cases kq with
    | zero => exact absurd HA.out (by simp [spec_ReadBatch.j1])
    | succ kj12 =>
     have H := HA.out; clear HA; simp only [spec_ReadBatch.j1] at H; by_cases c16 : x29_12 = true
     · subst c16; have H1 : ((spec_l05ReadShort.f kj12 x195000_1 x195001_1 x195002_1).bind fun bt205 => ((spec_l05Take.f bt205.2.1 bt205.2.2.1 bt205.2.2.2 1).bind fun bt209 => ((spec_l05ReadShort.f kj12 bt209.2.1 bt209.2.2.1 bt209.2.2.2).bind fun bt213 => (if x196001_1.length < 3518437208883 then (spec_ReadBatch.l0 kj12 a0 t200 (wrap64 (x7_1 + 1)) bt213.2.1 bt213.2.2.1 bt213.2.2.2 t196 (x196001_1 ++ [(⟨bt205.1, bt213.1, (bt209.1.toList == ([1] : List UInt8))⟩ : S80)])) else (none))))) = some (r1, r2, r3) := by rw [if_pos rfl] at H; exact H
       clear H; have H := H1; clear H1; replace H := Option.bind_eq_some_iff.mp H; obtain ⟨⟨t205, t206, t207, t208⟩, A170, H⟩ := H; replace H : ((spec_l05Take.f t206 t207 t208 1).bind fun bt209 => ((spec_l05ReadShort.f kj12 bt209.2.1 bt209.2.2.1 bt209.2.2.2).bind fun bt213 => (if x196001_1.length < 3518437208883 then (spec_ReadBatch.l0 kj12 a0 t200 (wrap64 (x7_1 + 1)) bt213.2.1 bt213.2.2.1 bt213.2.2.2 t196 (x196001_1 ++ [(⟨t205, bt213.1, (bt209.1.toList == ([1] : List UInt8))⟩ : S80)])) else (none)))) = some (r1, r2, r3) := H; have A17 := Aside0.mk A170; clear A170; replace H := Option.bind_eq_some_iff.mp H; obtain ⟨⟨t209, t210, t211, t212⟩, A180, H⟩ := H; replace H : ((spec_l05ReadShort.f kj12 t210 t211 t212).bind fun bt213 => (if x196001_1.length < 3518437208883 then (spec_ReadBatch.l0 kj12 a0 t200 (wrap64 (x7_1 + 1)) bt213.2.1 bt213.2.2.1 bt213.2.2.2 t196 (x196001_1 ++ [(⟨t205, bt213.1, (t209.toList == ([1] : List UInt8))⟩ : S80)])) else (none))) = some (r1, r2, r3) := H; have A18 := Aside0.mk A180; clear A180; replace H := Option.bind_eq_some_iff.mp H; obtain ⟨⟨t213, t214, t215, t216⟩, A190, H⟩ := H; replace H : (if x196001_1.length < 3518437208883 then (spec_ReadBatch.l0 kj12 a0 t200 (wrap64 (x7_1 + 1)) t214 t215 t216 t196 (x196001_1 ++ [(⟨t205, t213, (t209.toList == ([1] : List UInt8))⟩ : S80)])) else (none)) = some (r1, r2, r3) := H; have A19 := Aside0.mk A190; clear A190; by_cases c20 : x196001_1.length < 3518437208883
       · rw [if_pos c20] at H; have LMc20 := Aside0.mk c20; clear c20; obtain ⟨y217, hy217⟩ : ∃ y_ : List (S80), y_ = (x196001_1 ++ [(⟨t205, t213, (t209.toList == ([1] : List UInt8))⟩ : S80)]) := ⟨_, rfl⟩; replace H : (spec_ReadBatch.l0 kj12 a0 t200 (wrap64 (x7_1 + 1)) t214 t215 t216 t196 y217) = some (r1, r2, r3) := by first | (rw [hy217]; with_reducible exact H) | (have H2_ := (Option.bind_some _ _).symm.trans H; rw [hy217]; with_reducible exact H2_) | (have H2_ := (Option.bind_some _ _).symm.trans H; with_reducible exact H2_) | with_reducible exact H | (rw [hy217]; exact H) | exact H
         have Ny217 := Aside0.mk hy217; clear hy217; have H' := Aside0.mk H; clear H
         go_wp2_with (first | ((with_reducible refine gate_dst (N := 8) rfl ?_); refine boxE (N := 8) (cs := #[.string (⟨#[]⟩ : ByteArray), .string (⟨#[]⟩ : ByteArray), .bool false]) (t := 80) (h := ?_); intro gb204 hg w21 hbox hb; replace HO_196001 := Aside0.mk (Kd.R_below (Kd.R_elderB t26_ gb204 (Nat.le_of_eq hg.symm)) hb); have BK204 := Aside0.mk (hbox); have GW204 := Aside0.mk ((by rw [hg]; exact (below_size t9_) : w.heap.size ≤ gb204)); have GE204 := Aside0.mk ((by rw [hg]; exact (below_size t9_) : w.heap.size ≤ gb204)); replace HB := bS t9_ hb; have NB193_204 := nbL BK193 hg; have NB204_193 := nbG BK193 hg; replace BK193 := bkN BK193 hb; have NB195_204 := nbL BK195 hg; have NB204_195 := nbG BK195 hg; replace BK195 := bkN BK195 hb; have NB194_204 := Aside0.mk ((by rw [hg]; exact Nat.ne_of_lt (IsS86.lt (show IsS86 w _ gb194 x195000_1 x195001_1 x195002_1 from by repeat (first | (with_reducible first | exact HI194.out | apply IsS86.alloc | apply IsS86.drewN | apply IsS86.drew | apply IsS86.set_0 | apply IsS86.set_1 | apply IsS86.set_2 | refine IsS86.far ?_ NB194_193.out _ | refine IsS86.far ?_ NB194_195.out _) | exact HI194.out))) : gb194 ≠ gb204)); have NB204_194 := Aside0.mk ((by rw [hg]; exact Nat.ne_of_gt (IsS86.lt (show IsS86 w _ gb194 x195000_1 x195001_1 x195002_1 from by repeat (first | (with_reducible first | exact HI194.out | apply IsS86.alloc | apply IsS86.drewN | apply IsS86.drew | apply IsS86.set_0 | apply IsS86.set_1 | apply IsS86.set_2 | refine IsS86.far ?_ NB194_193.out _ | refine IsS86.far ?_ NB194_195.out _) | exact HI194.out))) : gb204 ≠ gb194)); replace HI194 := Aside0.mk (IsS86.below t13_ hb); clear hb hbox hg; have hnb22 := NB204_193.out; have hnc22 := NB193_204.out; have hnb23 := NB204_195.out; have hnc23 := NB195_204.out; have hnb24 := NB204_194.out; have hnc24 := NB194_204.out; obtain ⟨hcz25_0, hcz25_1, hcz25_2, hfz25_0, hfz25_1, hfz25_2⟩ := ba3 BK204) | ((with_reducible refine gate_callee (f := 73) rfl ?_); refine goesL_ (some 34) rfl rfl Try.func73 (by kernel_rfl) rfl #[.pointer (some ⟨gb194, 0, none⟩)] rfl t5_ ?_; (with_reducible refine (spec_l05ReadShort.calls kj12 gb194 x195000_1 x195001_1 x195002_1 t205 t206 t207 t208 w _ ?side1 ?side2 A17.out).mono ?_); (case side1 => repeat (first | (with_reducible first | exact HI194.out | apply IsS86.alloc | apply IsS86.drewN | apply IsS86.drew | apply IsS86.set_0 | apply IsS86.set_1 | apply IsS86.set_2 | refine IsS86.far ?_ NB194_193.out _ | refine IsS86.far ?_ NB194_195.out _ | refine IsS86.far ?_ NB194_204.out _) | exact HI194.out)); (case side2 => repeat (first | (with_reducible first | exact HB.out | apply below_alloc | apply pw_below_drewN | apply below_drew1 | refine below_set ?_ (IsS86.ge HI194.out) | refine below_set ?_ GE193.out | refine below_set ?_ GE195.out | refine below_set ?_ GE204.out) | exact HB.out)); rintro e w26 ⟨rfl, hi, hb, hk⟩; refine ⟨_, rfl, ?_⟩; replace HO_196001 := Aside0.mk (Kd.R_mono (Kd.R_keep (IsS86.apart (show IsS86 w _ gb194 x195000_1 x195001_1 x195002_1 from by repeat (first | (with_reducible first | exact HI194.out | apply IsS86.alloc | apply IsS86.drewN | apply IsS86.drew | apply IsS86.set_0 | apply IsS86.set_1 | apply IsS86.set_2 | refine IsS86.far ?_ NB194_193.out _ | refine IsS86.far ?_ NB194_195.out _ | refine IsS86.far ?_ NB194_204.out _) | exact HI194.out)) (by (with_reducible repeat (first | apply Kd.R_alloc | apply Kd.R_drewN | apply Kd.R_drew)); exact (Kd.R_mono (Kd.R_far (p := ⟨gb204, 2, none⟩) (Kd.R_far (p := ⟨gb204, 1, none⟩) (Kd.R_far (p := ⟨gb204, 0, none⟩) (Kd.R_mono HO_196001.out (fun k_ hk => (⟨hk, hk.2⟩ : _ ∧ k_ ≠ gb204))) (fun _ hk => hk.2) (.string (⟨#[]⟩ : ByteArray))) (fun _ hk => hk.2) (.string (⟨#[]⟩ : ByteArray))) (fun _ hk => hk.2) (.bool false)) (fun _ h_ => h_.1))) (by decide)) hk (fun _ h => h.2)) (fun _ h => h.1)); replace BK193 := Aside0.mk (KeepBut.blk hk (g' := gb193) (o := .cells #[.int .i64 0, .slice none 0 0] 46 (0, 0)) (zF3 BK193 NB193_204 NB193_204 NB193_204) NB193_194.out (by simp)); replace BK195 := Aside0.mk (KeepBut.blk hk (g' := gb195) (o := .cells #[.int .i64 t196, u196001] 46 (0, 0)) (zF3 BK195 NB195_204 NB195_204 NB195_204) NB195_194.out (by simp)); replace BK204 := Aside0.mk (KeepBut.blk hk (g' := gb204) (o := .cells #[.string (⟨#[]⟩ : ByteArray), .string (⟨#[]⟩ : ByteArray), .bool false] 80 (0, 0)) (zQ3 BK204) NB204_194.out (by simp)); replace HB := Aside0.mk (hb); replace HI194 := Aside0.mk (hi); (try clear hb); (try clear hk); (try clear hi); obtain ⟨hcz27_0, hcz27_1, hcz27_2, hfz27_0, hfz27_1, hfz27_2⟩ := ba3 BK204) | ((with_reducible refine gate_callee (f := 74) rfl ?_); refine goesL_ (some 37) rfl rfl Try.func74 (by kernel_rfl) rfl #[.pointer (some ⟨gb194, 0, none⟩), .int .i64 1] rfl t5_ ?_; (with_reducible refine (spec_l05Take.calls gb194 t206 t207 t208 1 t209 t210 t211 t212 w _ ?side1 ?side2 A18.out).mono ?_); (case side1 => repeat (first | (with_reducible first | exact HI194.out | apply IsS86.alloc | apply IsS86.drewN | apply IsS86.drew | apply IsS86.set_0 | apply IsS86.set_1 | apply IsS86.set_2 | refine IsS86.far ?_ NB194_193.out _ | refine IsS86.far ?_ NB194_195.out _ | refine IsS86.far ?_ NB194_204.out _) | exact HI194.out)); (case side2 => repeat (first | (with_reducible first | exact HB.out | apply below_alloc | apply pw_below_drewN | apply below_drew1 | refine below_set ?_ (IsS86.ge HI194.out) | refine below_set ?_ GE193.out | refine below_set ?_ GE195.out | refine below_set ?_ GE204.out) | exact HB.out)); rintro e w28 ⟨rfl, hi, hb, hk⟩; refine ⟨_, rfl, ?_⟩; replace HO_196001 := Aside0.mk (Kd.R_mono (Kd.R_keep (IsS86.apart (show IsS86 w _ gb194 t206 t207 t208 from by repeat (first | (with_reducible first | exact HI194.out | apply IsS86.alloc | apply IsS86.drewN | apply IsS86.drew | apply IsS86.set_0 | apply IsS86.set_1 | apply IsS86.set_2 | refine IsS86.far ?_ NB194_193.out _ | refine IsS86.far ?_ NB194_195.out _ | refine IsS86.far ?_ NB194_204.out _) | exact HI194.out)) (by (with_reducible repeat (first | apply Kd.R_alloc | apply Kd.R_drewN | apply Kd.R_drew)); exact (Kd.R_mono (Kd.R_far (p := ⟨gb204, 0, none⟩) (Kd.R_mono HO_196001.out (fun k_ hk => (⟨hk, hk.2⟩ : _ ∧ k_ ≠ gb204))) (fun _ hk => hk.2) (.string t205)) (fun _ h_ => h_.1))) (by decide)) hk (fun _ h => h.2)) (fun _ h => h.1)); replace BK193 := Aside0.mk (KeepBut.blk hk (g' := gb193) (o := .cells #[.int .i64 0, .slice none 0 0] 46 (0, 0)) (zF1 BK193 NB193_204) NB193_194.out (by simp)); replace BK195 := Aside0.mk (KeepBut.blk hk (g' := gb195) (o := .cells #[.int .i64 t196, u196001] 46 (0, 0)) (zF1 BK195 NB195_204) NB195_194.out (by simp)); replace BK204 := Aside0.mk (KeepBut.blk hk (g' := gb204) (o := .cells #[.string t205, .string (⟨#[]⟩ : ByteArray), .bool false] 80 (0, 0)) (zP BK204) NB204_194.out (by simp)); replace HB := Aside0.mk (hb); replace HI194 := Aside0.mk (hi); (try clear hb); (try clear hk); (try clear hi); obtain ⟨hcz29_0, hcz29_1, hcz29_2, hfz29_0, hfz29_1, hfz29_2⟩ := ba3 BK204) | ((with_reducible refine gate_callee (f := 73) rfl ?_); refine goesL_ (some 41) rfl rfl Try.func73 (by kernel_rfl) rfl #[.pointer (some ⟨gb194, 0, none⟩)] rfl t5_ ?_; (with_reducible refine (spec_l05ReadShort.calls kj12 gb194 t210 t211 t212 t213 t214 t215 t216 w _ ?side1 ?side2 A19.out).mono ?_); (case side1 => repeat (first | (with_reducible first | exact HI194.out | apply IsS86.alloc | apply IsS86.drewN | apply IsS86.drew | apply IsS86.set_0 | apply IsS86.set_1 | apply IsS86.set_2 | refine IsS86.far ?_ NB194_193.out _ | refine IsS86.far ?_ NB194_195.out _ | refine IsS86.far ?_ NB194_204.out _) | exact HI194.out)); (case side2 => repeat (first | (with_reducible first | exact HB.out | apply below_alloc | apply pw_below_drewN | apply below_drew1 | refine below_set ?_ (IsS86.ge HI194.out) | refine below_set ?_ GE193.out | refine below_set ?_ GE195.out | refine below_set ?_ GE204.out) | exact HB.out)); rintro e w30 ⟨rfl, hi, hb, hk⟩; refine ⟨_, rfl, ?_⟩; replace HO_196001 := Aside0.mk (Kd.R_mono (Kd.R_keep (IsS86.apart (show IsS86 w _ gb194 t210 t211 t212 from by repeat (first | (with_reducible first | exact HI194.out | apply IsS86.alloc | apply IsS86.drewN | apply IsS86.drew | apply IsS86.set_0 | apply IsS86.set_1 | apply IsS86.set_2 | refine IsS86.far ?_ NB194_193.out _ | refine IsS86.far ?_ NB194_195.out _ | refine IsS86.far ?_ NB194_204.out _) | exact HI194.out)) (by (with_reducible repeat (first | apply Kd.R_alloc | apply Kd.R_drewN | apply Kd.R_drew)); exact (Kd.R_mono (Kd.R_far (p := ⟨gb204, 2, none⟩) (Kd.R_mono HO_196001.out (fun k_ hk => (⟨hk, hk.2⟩ : _ ∧ k_ ≠ gb204))) (fun _ hk => hk.2) (.bool (t209.toList == ([1] : List UInt8)))) (fun _ h_ => h_.1))) (by decide)) hk (fun _ h => h.2)) (fun _ h => h.1)); replace BK193 := Aside0.mk (KeepBut.blk hk (g' := gb193) (o := .cells #[.int .i64 0, .slice none 0 0] 46 (0, 0)) (zF1 BK193 NB193_204) NB193_194.out (by simp)); replace BK195 := Aside0.mk (KeepBut.blk hk (g' := gb195) (o := .cells #[.int .i64 t196, u196001] 46 (0, 0)) (zF1 BK195 NB195_204) NB195_194.out (by simp)); replace BK204 := Aside0.mk (KeepBut.blk hk (g' := gb204) (o := .cells #[.string t205, .string (⟨#[]⟩ : ByteArray), .bool (t209.toList == ([1] : List UInt8))] 80 (0, 0)) (zP BK204) NB204_194.out (by simp)); replace HB := Aside0.mk (hb); replace HI194 := Aside0.mk (hi); (try clear hb); (try clear hk); (try clear hi); obtain ⟨hcz31_0, hcz31_1, hcz31_2, hfz31_0, hfz31_1, hfz31_2⟩ := ba3 BK204; have hnb32 := NB195_193.out; have hnc32 := NB193_195.out; have hnb33 := NB195_194.out; have hnc33 := NB194_195.out; obtain ⟨hcz34_0, hcz34_1, hfz34_0, hfz34_1⟩ := ba2 BK195) | ((with_reducible refine gate_builtin (b := .append) (xs := #[.tmp 44, .tmp 46]) rfl ?_); at_builtin; refine Kd.R_append k80 (w0 := w) w.heap.size rfl (.tmp 44) (.tmp 46) 44 80 (.agg #[(.string ⟨#[]⟩), (.string ⟨#[]⟩), (.bool false)]) 40 rfl Try.underlying44 info80 rfl (by decide) (by omega) u196001 x196001_1 (⟨t205, t213, (t209.toList == ([1] : List UInt8))⟩ : S80) [.string t205, .string t213, .bool (t209.toList == ([1] : List UInt8))] (fun k_ => k_ ≠ gb204) (fun _ => False) rfl (by first | (go_simp; done) | (go_simp; rfl)) ?aP (fun _ hk => hk.elim) ?aF ?aO ?aB ?aS ?aL ?_; (case aP => exact k80_mkM _ _ _ (⟨t205, t213, (t209.toList == ([1] : List UInt8))⟩ : S80)); (case aB => exact (by repeat (first | (with_reducible first | exact HB.out | apply below_alloc | apply pw_below_drewN | apply below_drew1 | refine below_set ?_ (IsS86.ge HI194.out) | refine below_set ?_ GE193.out | refine below_set ?_ GE195.out | refine below_set ?_ GE204.out) | exact HB.out))); (case aF => exact (fun k_ hk => Kd.freshB (g := gb204) (o := .cells #[.string t205, .string t213, .bool (t209.toList == ([1] : List UInt8))] 80 (0, 0)) (zP BK204) k_ hk)); (case aO => exact (by (with_reducible repeat (first | apply Kd.R_alloc | apply Kd.R_drewN | apply Kd.R_drew)); exact Kd.R_mono (Kd.R_far (p := ⟨gb204, 1, none⟩) (Kd.R_mono HO_196001.out (fun k_ hk => (⟨hk, hk.2⟩ : _ ∧ k_ ≠ gb204))) (fun _ hk => hk.2) (.string t213)) (fun _ hk => hk.1.2))); (case aS => exact (below_size (by repeat (first | (with_reducible first | exact HB.out | apply below_alloc | apply pw_below_drewN | apply below_drew1 | refine below_set ?_ (IsS86.ge HI194.out) | refine below_set ?_ GE193.out | refine below_set ?_ GE195.out | refine below_set ?_ GE204.out) | exact HB.out)))); (case aL => have := LMc20.out; omega); intro v218 w35 ho hb hg hat; rw [← Ny217.out] at ho; have n0_ := Aside0.mk (blk_grown (g := gb193) (o := .cells #[.int .i64 0, .slice none 0 0] 46 (0, 0)) (zF1 BK193 NB193_204) hg (Kd.R_ne HO_196001.out BK193.out (by decide))); have n1_ := Aside0.mk (blk_grown (g := gb195) (o := .cells #[.int .i64 t196, u196001] 46 (0, 0)) (zF1 BK195 NB195_204) hg (Kd.R_ne HO_196001.out BK195.out (by decide))); have n2_ := Aside0.mk (IsS86.grown (IsS86.same HI194 (by repeat (first | (with_reducible first | exact HI194.out | apply IsS86.alloc | apply IsS86.drewN | apply IsS86.drew | apply IsS86.set_0 | apply IsS86.set_1 | apply IsS86.set_2 | refine IsS86.far ?_ NB194_193.out _ | refine IsS86.far ?_ NB194_195.out _ | refine IsS86.far ?_ NB194_204.out _) | exact HI194.out))) hg (IsS86.own_ne HI194.out HO_196001.out (by decide))); have n3_ := Aside0.mk (blk_grown (g := gb204) (o := .cells #[.string t205, .string t213, .bool (t209.toList == ([1] : List UInt8))] 80 (0, 0)) (zP BK204) hg (Kd.R_away HO_196001.out (fun _ hk => hk.2))); have n4_ := Aside0.mk (hb); have n5_ := Aside0.mk (ho); clear BK193; clear BK195; clear HI194; clear BK204; clear HB; clear HO_196001; have BK193 := n0_; have BK195 := n1_; have HI194 := n2_; have BK204 := n3_; have HB := n4_; have HO219 := n5_; clear n0_ n1_ n2_ n3_ n4_ n5_; clear ho hb hg hat; obtain ⟨Ao36, co36, eo36⟩ := Kd.R_slice HO219.out; subst eo36; obtain ⟨hcz37_0, hcz37_1, hfz37_0, hfz37_1⟩ := ba2 BK195))
         go_roundg kj12
         case measure => have := HK1.out; have := HJ12.out; omega
         case rel => exact ⟨(wrap64 (x7_1 + 1)), (t214), (t215), (t216), (y217), (.slice Ao36 y217.length co36), t10_, H', ⟨by have := HK1.out; have := HJ12.out; omega⟩, ⟨by (with_reducible repeat (first | apply Kd.R_alloc | apply Kd.R_drewN | apply Kd.R_drew)); exact Kd.R_mono (Kd.R_far (p := ⟨gb195, 1, none⟩) (Kd.R_types HO219.out BK195.out (by decide)) (fun _ hk => hk.2) (.slice Ao36 y217.length co36)) (fun _ hk => trivial)⟩, ⟨zF1 BK193 NB193_195⟩, ⟨zP BK195⟩, ⟨by repeat (first | (with_reducible first | exact HI194.out | apply IsS86.alloc | apply IsS86.drewN | apply IsS86.drew | apply IsS86.set_0 | apply IsS86.set_1 | apply IsS86.set_2 | refine IsS86.far ?_ NB194_193.out _ | refine IsS86.far ?_ NB194_195.out _ | refine IsS86.far ?_ NB194_204.out _) | exact HI194.out)⟩, ⟨by repeat (first | (with_reducible first | exact HB.out | apply below_alloc | apply pw_below_drewN | apply below_drew1 | refine below_set ?_ (IsS86.ge HI194.out) | refine below_set ?_ GE193.out | refine below_set ?_ GE195.out | refine below_set ?_ GE204.out) | exact HB.out)⟩⟩
       · rw [if_neg c20] at H; exact absurd H (by simp)
     · replace c16 := Bool.eq_false_iff.mpr c16; subst c16; have H1 : ((spec_BatchText.f kj12 t196 x196001_1).bind fun bt220 => (if x195002_1 = true then (some (0, ([] : List (S80)), false)) else (if bt220.2 = true then (if bt220.1.toList = a0.toList then (some (t196, x196001_1, true)) else (some (0, ([] : List (S80)), false))) else (some (0, ([] : List (S80)), false))))) = some (r1, r2, r3) := by rw [if_neg (show ¬ (false = true) by decide)] at H; exact H
       clear H; have H := H1; clear H1; replace H := Option.bind_eq_some_iff.mp H; obtain ⟨⟨t220, t221⟩, A380, H⟩ := H; replace H : (if x195002_1 = true then (some (0, ([] : List (S80)), false)) else (if t221 = true then (if t220.toList = a0.toList then (some (t196, x196001_1, true)) else (some (0, ([] : List (S80)), false))) else (some (0, ([] : List (S80)), false)))) = some (r1, r2, r3) := H; have A38 := Aside0.mk A380; clear A380; by_cases c39 : x195002_1 = true
       · subst c39; have H1 : (some (0, ([] : List (S80)), false)) = some (r1, r2, r3) := by rw [if_pos rfl] at H; exact H
         clear H; have H := H1; clear H1; simp only [Option.some.injEq, Prod.mk.injEq] at H; obtain ⟨rfl, rfl, rfl⟩ := H; have hnb40 := NB195_193.out; have hnc40 := NB193_195.out; have hnb41 := NB195_194.out; have hnc41 := NB194_195.out; obtain ⟨hcz42_0, hcz42_1, hfz42_0, hfz42_1⟩ := ba2 BK195; obtain ⟨Ao43, co43, eo43⟩ := Kd.R_slice HO_196001.out; subst eo43
         go_wp2_with (first | ((with_reducible refine gate_callee (f := 75) rfl ?_); refine goesL_ (some 51) rfl rfl Try.func75 (by kernel_rfl) rfl #[.agg #[.int .i64 t196, .slice Ao43 x196001_1.length co43]] rfl t5_ ?_; (with_reducible refine (spec_BatchText.calls kj12 t196 _ _ x196001_1 t220 t221 _ ?side1 ?side2 A38.out).mono ?_); (case side1 => repeat (first | exact (Kd.R_reads' HO_196001.out).2.2 | (with_reducible refine Kd.C_alloc ?_ _) | (with_reducible refine Kd.C_drewN ?_ _) | (with_reducible refine Kd.C_drew ?_))); (case side2 => exact (Kd.R_reads' HO_196001.out).2.1); rintro e w44 ⟨rfl, hb⟩; refine ⟨_, rfl, ?_⟩; replace HO_196001 := Aside0.mk (Kd.R_below t26_ hb); replace BK193 := bkN BK193 hb; replace BK195 := bkN BK195 hb; replace HB := bS t9_ hb; replace HI194 := Aside0.mk (IsS86.below t13_ hb); (try clear hb); obtain ⟨HGz45, hgz45⟩ := HI194.out; have hcz45_0 := cellS86_0 HGz45; have hcz45_1 := cellS86_1 HGz45; have hcz45_2 := cellS86_2 HGz45; have hfz45_0 := blk_frozen HGz45 0; have hfz45_1 := blk_frozen HGz45 1; have hfz45_2 := blk_frozen HGz45 2; clear HGz45 hgz45; have hnb46 := NB193_194.out; have hnc46 := NB194_193.out; obtain ⟨hcz47_0, hcz47_1, hfz47_0, hfz47_1⟩ := ba2 BK193))
         refine bodyPost_ret (results_ct rfl _ _ gb193 46 #[.int .i64 0, .slice none 0 0] (0, 0) _ rfl (zQ2 BK193) Try.underlying46 rfl (by kernel_rfl)) rfl ?_
         exact ⟨_, by first | rfl | (simp [errW_none, errW_some] <;> rfl) | (simp [*, errW_none, errW_some] <;> rfl), by first | exact Kd.R_nil _ _ _ _ _ | exact Kd.N_nil _ _ _ _ _ | exact Kd.V_nil _ _ _ _ _ | exact Kd.Q_nil _ _ _ _ _ | exact Kd.S_nil _ _ _ _ _, t9_⟩
       · replace c39 := Bool.eq_false_iff.mpr c39; subst c39; have H1 : (if t221 = true then (if t220.toList = a0.toList then (some (t196, x196001_1, true)) else (some (0, ([] : List (S80)), false))) else (some (0, ([] : List (S80)), false))) = some (r1, r2, r3) := by rw [if_neg (show ¬ (false = true) by decide)] at H; exact H
         clear H; have H := H1; clear H1; by_cases c48 : t221 = true
         · subst c48; have H1 : (if t220.toList = a0.toList then (some (t196, x196001_1, true)) else (some (0, ([] : List (S80)), false))) = some (r1, r2, r3) := by rw [if_pos rfl] at H; exact H
           clear H; have H := H1; clear H1; by_cases c49 : t220.toList = a0.toList
           · rw [if_pos c49] at H; have c49b0 : (t220.toList == a0.toList) = true := beq_iff_eq.mpr c49; have c49b1 : (t220.toList != a0.toList) = false := bne_eq_false_iff_eq.mpr c49; clear c49; simp only [Option.some.injEq, Prod.mk.injEq] at H; obtain ⟨rfl, rfl, rfl⟩ := H; have hnb50 := NB195_193.out; have hnc50 := NB193_195.out; have hnb51 := NB195_194.out; have hnc51 := NB194_195.out; obtain ⟨hcz52_0, hcz52_1, hfz52_0, hfz52_1⟩ := ba2 BK195; obtain ⟨Ao53, co53, eo53⟩ := Kd.R_slice HO_196001.out; subst eo53
             go_wp2_with (first | ((with_reducible refine gate_callee (f := 75) rfl ?_); refine goesL_ (some 51) rfl rfl Try.func75 (by kernel_rfl) rfl #[.agg #[.int .i64 t196, .slice Ao53 x196001_1.length co53]] rfl t5_ ?_; (with_reducible refine (spec_BatchText.calls kj12 t196 _ _ x196001_1 t220 true _ ?side1 ?side2 A38.out).mono ?_); (case side1 => repeat (first | exact (Kd.R_reads' HO_196001.out).2.2 | (with_reducible refine Kd.C_alloc ?_ _) | (with_reducible refine Kd.C_drewN ?_ _) | (with_reducible refine Kd.C_drew ?_))); (case side2 => exact (Kd.R_reads' HO_196001.out).2.1); rintro e w54 ⟨rfl, hb⟩; refine ⟨_, rfl, ?_⟩; replace HO_196001 := Aside0.mk (Kd.R_below t26_ hb); replace BK193 := bkN BK193 hb; replace BK195 := bkN BK195 hb; replace HB := bS t9_ hb; replace HI194 := Aside0.mk (IsS86.below t13_ hb); (try clear hb); obtain ⟨HGz55, hgz55⟩ := HI194.out; have hcz55_0 := cellS86_0 HGz55; have hcz55_1 := cellS86_1 HGz55; have hcz55_2 := cellS86_2 HGz55; have hfz55_0 := blk_frozen HGz55 0; have hfz55_1 := blk_frozen HGz55 1; have hfz55_2 := blk_frozen HGz55 2; clear HGz55 hgz55; obtain ⟨hcz56_0, hcz56_1, hfz56_0, hfz56_1⟩ := ba2 BK195; have hnb57 := NB193_194.out; have hnc57 := NB194_193.out; obtain ⟨hcz58_0, hcz58_1, hfz58_0, hfz58_1⟩ := ba2 BK193))
             refine bodyPost_ret (results_ct rfl _ _ gb193 46 #[.int .i64 t196, .slice Ao53 x196001_1.length co53] (0, 0) _ rfl (zQ2 BK193) Try.underlying46 rfl (by kernel_rfl)) rfl ?_
             exact ⟨_, by first | rfl | (simp [errW_none, errW_some] <;> rfl) | (simp [*, errW_none, errW_some] <;> rfl), by (with_reducible repeat (first | apply Kd.R_alloc | apply Kd.R_drewN | apply Kd.R_drew)); exact Kd.R_mono (Kd.R_far (p := ⟨gb193, 1, none⟩) (Kd.R_far (p := ⟨gb193, 0, none⟩) (Kd.R_types HO_196001.out BK193.out (by decide)) (fun _ hk => hk.2) (.int .i64 t196)) (fun _ hk => hk.2) (.slice Ao53 x196001_1.length co53)) (fun _ hk => trivial), t9_⟩
           · rw [if_neg c49] at H; have c49b0 : (t220.toList == a0.toList) = false := beq_eq_false_iff_ne.mpr c49; have c49b1 : (t220.toList != a0.toList) = true := bne_iff_ne.mpr c49; simp only [Option.some.injEq, Prod.mk.injEq] at H; obtain ⟨rfl, rfl, rfl⟩ := H; have hnb59 := NB195_193.out; have hnc59 := NB193_195.out; have hnb60 := NB195_194.out; have hnc60 := NB194_195.out; obtain ⟨hcz61_0, hcz61_1, hfz61_0, hfz61_1⟩ := ba2 BK195; obtain ⟨Ao62, co62, eo62⟩ := Kd.R_slice HO_196001.out; subst eo62
             go_wp2_with (first | ((with_reducible refine gate_callee (f := 75) rfl ?_); refine goesL_ (some 51) rfl rfl Try.func75 (by kernel_rfl) rfl #[.agg #[.int .i64 t196, .slice Ao62 x196001_1.length co62]] rfl t5_ ?_; (with_reducible refine (spec_BatchText.calls kj12 t196 _ _ x196001_1 t220 true _ ?side1 ?side2 A38.out).mono ?_); (case side1 => repeat (first | exact (Kd.R_reads' HO_196001.out).2.2 | (with_reducible refine Kd.C_alloc ?_ _) | (with_reducible refine Kd.C_drewN ?_ _) | (with_reducible refine Kd.C_drew ?_))); (case side2 => exact (Kd.R_reads' HO_196001.out).2.1); rintro e w63 ⟨rfl, hb⟩; refine ⟨_, rfl, ?_⟩; replace HO_196001 := Aside0.mk (Kd.R_below t26_ hb); replace BK193 := bkN BK193 hb; replace BK195 := bkN BK195 hb; replace HB := bS t9_ hb; replace HI194 := Aside0.mk (IsS86.below t13_ hb); (try clear hb); obtain ⟨HGz64, hgz64⟩ := HI194.out; have hcz64_0 := cellS86_0 HGz64; have hcz64_1 := cellS86_1 HGz64; have hcz64_2 := cellS86_2 HGz64; have hfz64_0 := blk_frozen HGz64 0; have hfz64_1 := blk_frozen HGz64 1; have hfz64_2 := blk_frozen HGz64 2; clear HGz64 hgz64; have hnb65 := NB193_194.out; have hnc65 := NB194_193.out; obtain ⟨hcz66_0, hcz66_1, hfz66_0, hfz66_1⟩ := ba2 BK193))
             refine bodyPost_ret (results_ct rfl _ _ gb193 46 #[.int .i64 0, .slice none 0 0] (0, 0) _ rfl (zQ2 BK193) Try.underlying46 rfl (by kernel_rfl)) rfl ?_
             exact ⟨_, by first | rfl | (simp [errW_none, errW_some] <;> rfl) | (simp [*, errW_none, errW_some] <;> rfl), by first | exact Kd.R_nil _ _ _ _ _ | exact Kd.N_nil _ _ _ _ _ | exact Kd.V_nil _ _ _ _ _ | exact Kd.Q_nil _ _ _ _ _ | exact Kd.S_nil _ _ _ _ _, t9_⟩
         · replace c48 := Bool.eq_false_iff.mpr c48; subst c48; have H1 : (some (0, ([] : List (S80)), false)) = some (r1, r2, r3) := by rw [if_neg (show ¬ (false = true) by decide)] at H; exact H
           clear H; have H := H1; clear H1; simp only [Option.some.injEq, Prod.mk.injEq] at H; obtain ⟨rfl, rfl, rfl⟩ := H; have hnb67 := NB195_193.out; have hnc67 := NB193_195.out; have hnb68 := NB195_194.out; have hnc68 := NB194_195.out; obtain ⟨hcz69_0, hcz69_1, hfz69_0, hfz69_1⟩ := ba2 BK195; obtain ⟨Ao70, co70, eo70⟩ := Kd.R_slice HO_196001.out; subst eo70
           go_wp2_with (first | ((with_reducible refine gate_callee (f := 75) rfl ?_); refine goesL_ (some 51) rfl rfl Try.func75 (by kernel_rfl) rfl #[.agg #[.int .i64 t196, .slice Ao70 x196001_1.length co70]] rfl t5_ ?_; (with_reducible refine (spec_BatchText.calls kj12 t196 _ _ x196001_1 t220 false _ ?side1 ?side2 A38.out).mono ?_); (case side1 => repeat (first | exact (Kd.R_reads' HO_196001.out).2.2 | (with_reducible refine Kd.C_alloc ?_ _) | (with_reducible refine Kd.C_drewN ?_ _) | (with_reducible refine Kd.C_drew ?_))); (case side2 => exact (Kd.R_reads' HO_196001.out).2.1); rintro e w71 ⟨rfl, hb⟩; refine ⟨_, rfl, ?_⟩; replace HO_196001 := Aside0.mk (Kd.R_below t26_ hb); replace BK193 := bkN BK193 hb; replace BK195 := bkN BK195 hb; replace HB := bS t9_ hb; replace HI194 := Aside0.mk (IsS86.below t13_ hb); (try clear hb); obtain ⟨HGz72, hgz72⟩ := HI194.out; have hcz72_0 := cellS86_0 HGz72; have hcz72_1 := cellS86_1 HGz72; have hcz72_2 := cellS86_2 HGz72; have hfz72_0 := blk_frozen HGz72 0; have hfz72_1 := blk_frozen HGz72 1; have hfz72_2 := blk_frozen HGz72 2; clear HGz72 hgz72; have hnb73 := NB193_194.out; have hnc73 := NB194_193.out; obtain ⟨hcz74_0, hcz74_1, hfz74_0, hfz74_1⟩ := ba2 BK193))
           refine bodyPost_ret (results_ct rfl _ _ gb193 46 #[.int .i64 0, .slice none 0 0] (0, 0) _ rfl (zQ2 BK193) Try.underlying46 rfl (by kernel_rfl)) rfl ?_
           exact ⟨_, by first | rfl | (simp [errW_none, errW_some] <;> rfl) | (simp [*, errW_none, errW_some] <;> rfl), by first | exact Kd.R_nil _ _ _ _ _ | exact Kd.N_nil _ _ _ _ _ | exact Kd.V_nil _ _ _ _ _ | exact Kd.Q_nil _ _ _ _ _ | exact Kd.S_nil _ _ _ _ _, t9_⟩

/-! ### laws_eqChange: function 97 -/
def laws_eqChange.f (a0_0 : ByteArray) (a0_1 : ByteArray) (a0_2 : Bool) (a1_0 : ByteArray) (a1_1 : ByteArray) (a1_2 : Bool) : Option (Bool) := if a0_0.toList = a1_0.toList then (if a0_1.toList = a1_1.toList then (if (a0_2 != a1_2) = true then (none) else (some true)) else (none)) else (none)
set_option maxHeartbeats 8000000 in
set_option maxRecDepth 100000 in
theorem laws_eqChange.calls (a0_0 : ByteArray) (a0_1 : ByteArray) (a0_2 : Bool) (a1_0 : ByteArray) (a1_1 : ByteArray) (a1_2 : Bool) (r : Bool) (w : World) (h : laws_eqChange.f a0_0 a0_1 a0_2 a1_0 a1_1 a1_2 = some r) :
 Calls Try.prog 97 #[.agg #[.string a0_0, .string a0_1, .bool a0_2], .agg #[.string a1_0, .string a1_1, .bool a1_2]] w fun e w' => e = .returned (.bool r) ∧ Below w.heap.size w w' := by
 have hu80 := Try.underlying80; have HB := Aside0.mk (Below.refl w.heap.size w); have H : (if a0_0.toList = a1_0.toList then (if a0_1.toList = a1_1.toList then (if (a0_2 != a1_2) = true then (none) else (some true)) else (none)) else (none)) = some r := h; clear h; by_cases c3 : a0_0.toList = a1_0.toList
 · rw [if_pos c3] at H; have c3b0 : (a0_0.toList == a1_0.toList) = true := beq_iff_eq.mpr c3; have c3b1 : (a0_0.toList != a1_0.toList) = false := bne_eq_false_iff_eq.mpr c3; clear c3; by_cases c4 : a0_1.toList = a1_1.toList
   · rw [if_pos c4] at H; have c4b0 : (a0_1.toList == a1_1.toList) = true := beq_iff_eq.mpr c4; have c4b1 : (a0_1.toList != a1_1.toList) = false := bne_eq_false_iff_eq.mpr c4; clear c4; by_cases c5 : (a0_2 != a1_2) = true
     · rw [if_pos c5] at H; exact absurd H (by simp)
     · rw [if_neg c5] at H; have c5b0 : (a0_2 != a1_2) = false := by simpa using c5
       (try (have c5b1 : decide (a0_2 = a1_2) = true := by simpa using c5))
       (try (have c5b2 : (a0_2 == a1_2) = true := by simpa using c5))
       clear c5; obtain rfl := Option.some.inj H; go_enter Try.func97, Try.ntmps97
       go_wp2_with (first | ((with_reducible refine gate_dst (N := 2) rfl ?_); refine boxE (N := 2) (cs := #[.string a0_0, .string a0_1, .bool a0_2]) (t := 80) (h := ?_); intro gb222 hg w6 hbox hb; have BK222 := Aside0.mk (hbox); have GW222 := Aside0.mk ((t7_ : w.heap.size ≤ gb222)); have GE222 := GW222; replace HB := bS t0_ hb; clear hb hbox hg) | ((with_reducible refine gate_dst (N := 3) rfl ?_); refine boxE (N := 3) (cs := #[.string a1_0, .string a1_1, .bool a1_2]) (t := 80) (h := ?_); intro gb223 hg w7 hbox hb; have BK223 := Aside0.mk (hbox); have GW223 := Aside0.mk ((by rw [hg]; exact (below_size (by repeat (first | (with_reducible first | exact HB.out | apply below_alloc | apply pw_below_drewN | apply below_drew1 | refine below_set ?_ GE222.out) | exact HB.out))) : w.heap.size ≤ gb223)); have GE223 := Aside0.mk ((by rw [hg]; exact (below_size (by repeat (first | (with_reducible first | exact HB.out | apply below_alloc | apply pw_below_drewN | apply below_drew1 | refine below_set ?_ GE222.out) | exact HB.out))) : w.heap.size ≤ gb223)); replace HB := Aside0.mk (below_step (by repeat (first | (with_reducible first | exact HB.out | apply below_alloc | apply pw_below_drewN | apply below_drew1 | refine below_set ?_ GE222.out) | exact HB.out)) hb); have NB222_223 := nbL BK222 hg; have NB223_222 := nbG BK222 hg; replace BK222 := bkN BK222 hb; clear hb hbox hg; have hnb8 := NB222_223.out; have hnc8 := NB223_222.out; obtain ⟨hcz9_0, hcz9_1, hcz9_2, hfz9_0, hfz9_1, hfz9_2⟩ := ba3 BK222; obtain ⟨hcz10_0, hcz10_1, hcz10_2, hfz10_0, hfz10_1, hfz10_2⟩ := ba3 BK223))
       go_ret; exact ⟨by first | rfl | (simp [errW_none, errW_some] <;> rfl) | (simp [*, errW_none, errW_some] <;> rfl), by repeat (first | (with_reducible first | exact HB.out | apply below_alloc | apply pw_below_drewN | apply below_drew1 | refine below_set ?_ GE222.out | refine below_set ?_ GE223.out) | exact HB.out)⟩
   · rw [if_neg c4] at H; exact absurd H (by simp)
 · rw [if_neg c3] at H; exact absurd H (by simp)

/-! ### laws_eqChangeS: function 76 -/
def laws_eqChangeS.l0 : Nat → List (S80) → List (S80) → Int → Option (Bool)
 | 0, _, _, _ => none
 | k + 1, x0, x1, x5 => if x5 < (x0.length : Int) then (if 0 ≤ x5 then (if x5 < (x1.length : Int) then ((laws_eqChange.f ((rd_T80 x0 x5).f0) ((rd_T80 x0 x5).f1) ((rd_T80 x0 x5).f2) ((rd_T80 x1 x5).f0) ((rd_T80 x1 x5).f1) ((rd_T80 x1 x5).f2)).bind fun t226 => (if t226 = true then (laws_eqChangeS.l0 k x0 x1 (wrap64 (x5 + 1))) else (none))) else (none)) else (none)) else (some true)
def laws_eqChangeS.f (k : Nat) (l0 : List (S80)) (l1 : List (S80)) : Option (Bool) := if (l0.length : Int) = (l1.length : Int) then (laws_eqChangeS.l0 k l0 l1 0) else (none)
theorem laws_eqChangeS.mono_l : ∀ k, (∀ y0 y1 y2, LeO (laws_eqChangeS.l0 k y0 y1 y2) (laws_eqChangeS.l0 (k + 1) y0 y1 y2))
 | 0 => fun _ _ _ r h => by simp [laws_eqChangeS.l0] at h
 | k + 1 => by
  have ih0 := laws_eqChangeS.mono_l k
  · intro y0 y1 y2
    unfold laws_eqChangeS.l0
    repeat' first
    | (with_reducible exact ih0 _ _ _)
    | (with_reducible exact LeO.refl _)
    | (with_reducible exact LeO.none _)
    | (with_reducible refine LeO.ite ?_ ?_)
    | (with_reducible refine LeO.bind ?_ (fun _ => ?_))
    | exact ih0 _ _ _
    | exact LeO.none _
    | refine LeO.ite ?_ ?_
    | refine LeO.bind ?_ (fun _ => ?_)
theorem laws_eqChangeS.mono : ∀ a0 a1 k, LeO (laws_eqChangeS.f k a0 a1) (laws_eqChangeS.f (k + 1) a0 a1) := by
 intro a0 a1 k; have ih0 := laws_eqChangeS.mono_l k
 unfold laws_eqChangeS.f
 repeat' first
  | (with_reducible exact ih0 _ _ _)
  | (with_reducible exact LeO.refl _)
  | (with_reducible exact LeO.none _)
  | (with_reducible refine LeO.ite ?_ ?_)
  | (with_reducible refine LeO.bind ?_ (fun _ => ?_))
  | exact ih0 _ _ _
  | exact LeO.none _
  | refine LeO.ite ?_ ?_
  | refine LeO.bind ?_ (fun _ => ?_)
def laws_eqChangeS.T6 : Bool × List (List Nat × List Nat) := (true, [([], []), ([], []), ([0, 1], [0, 1]), ([2], [2]), ([], []), ([], []), ([4, 5], [4, 5]), ([6], [6]), ([3, 7], [3, 7]), ([8], [8])])
def laws_eqChangeS.B6 : List Nat := [0, 0, 3, 7, 0, 0, 48, 112, 255, 511]
theorem laws_eqChangeS.tab6 : rtab .any (opsOf Try.f76 6) = laws_eqChangeS.T6 := by kernel_rfl
theorem laws_eqChangeS.bits6 : waitsOk laws_eqChangeS.T6.2 laws_eqChangeS.B6 = true := by kernel_rfl
set_option maxHeartbeats 8000000 in
set_option maxRecDepth 100000 in
theorem laws_eqChangeS.calls (k : Nat) (A0 : Option Addr) (c0 : Nat) (l0 : List (S80)) (A1 : Option Addr) (c1 : Nat) (l1 : List (S80)) (r : Bool) (w : World) (hr0 : Kd.C k80 w A0 l0.length l0) (hc0 : l0.length ≤ c0) (hr1 : Kd.C k80 w A1 l1.length l1) (hc1 : l1.length ≤ c1) (h : laws_eqChangeS.f k l0 l1 = some r) :
 Calls Try.prog 76 #[.slice A0 l0.length c0, .slice A1 l1.length c1] w fun e w' => e = .returned (.bool r) ∧ Below w.heap.size w w' := by
 have hu80 := Try.underlying80; have HR0 := Aside0.mk hr0; have HC0 := Aside0.mk hc0; clear hr0 hc0; have HR1 := Aside0.mk hr1; have HC1 := Aside0.mk hc1; clear hr1 hc1; have HB := Aside0.mk (Below.refl w.heap.size w); have H : (if (l0.length : Int) = (l1.length : Int) then (laws_eqChangeS.l0 k l0 l1 0) else (none)) = some r := h; clear h; by_cases c3 : (l0.length : Int) = (l1.length : Int)
 · rw [if_pos c3] at H; have c3b0 : ((l0.length : Int) == (l1.length : Int)) = true := beq_iff_eq.mpr c3; have c3b1 : ((l0.length : Int) != (l1.length : Int)) = false := bne_eq_false_iff_eq.mpr c3; have c3b2 : (l0.length == l1.length) = true := by first | simpa using c3 | (simp at c3 ⊢; omega)
   clear c3; have H' := Aside0.mk H; clear H; go_enter Try.func76, Try.ntmps76; go_wp2
   go_loopg [5] k (fun kq v5 w' => ∃ (x5_1 : Int), v5 = .int .i64 x5_1 ∧ Aside0 (laws_eqChangeS.l0 kq l0 l1 x5_1 = some r) ∧ Aside0 (kq ≤ k) ∧ Aside0 (Below w.heap.size w w'))
   case atStart => exact ⟨(0), t10_, H', ⟨Nat.le_refl _⟩, ⟨t0_⟩⟩
   case round =>
    clear H'
    try clear c1
    try clear p2
    try clear c3
    try clear c3b0
    try clear c3b1
    try clear c3b2
    obtain ⟨x5_1, rfl, HA, HK1, HB⟩ := hrel
    cases gk with
    | zero => exact absurd HA.out (by simp [laws_eqChangeS.l0])
    | succ k1 =>
     have H := HA.out; clear HA; simp only [laws_eqChangeS.l0] at H; by_cases c4 : x5_1 < (l0.length : Int)
     · rw [if_pos c4] at H; have c4b0 : decide (x5_1 < (l0.length : Int)) = true := decide_eq_true c4; clear c4; by_cases c5 : 0 ≤ x5_1
       · rw [if_pos c5] at H; have c5b0 : decide (0 ≤ x5_1) = true := decide_eq_true c5; clear c5; by_cases c6 : x5_1 < (l1.length : Int)
         · rw [if_pos c6] at H; have c6b0 : decide (x5_1 < (l1.length : Int)) = true := decide_eq_true c6; clear c6; replace H := Option.bind_eq_some_iff.mp H; obtain ⟨t226, A70, H⟩ := H; replace H : (if t226 = true then (laws_eqChangeS.l0 k1 l0 l1 (wrap64 (x5_1 + 1))) else (none)) = some r := H; have A7 := Aside0.mk A70; clear A70; by_cases c8 : t226 = true
           · subst c8; have H1 : (laws_eqChangeS.l0 k1 l0 l1 (wrap64 (x5_1 + 1))) = some r := by rw [if_pos rfl] at H; exact H
             clear H; have H := H1; clear H1; have H' := Aside0.mk H; clear H
             try go_wp2
             replace HB := Aside0.mk (below_drew1 HB.out); have p224 : 0 ≤ (x5_1 : Int) := of_decide_eq_true t6_; have q224 : x5_1 < (l0.length : Int) := of_decide_eq_true t6_; obtain ⟨ad224, e224, hx224_0, hx224_1, hx224_2⟩ := at_T80 HR0.out x5_1 p224 q224; have hw224_2 := hx224_2; have hw224_1 := hx224_1; have hw224_0 := hx224_0
             cases e224
             replace hx224_0 := cW HB hx224_0; replace hx224_1 := cW HB hx224_1; replace hx224_2 := cW HB hx224_2; replace p224 := eq_true p224; replace q224 := eq_true q224; have p225 : 0 ≤ (x5_1 : Int) := of_decide_eq_true t6_; have q225 : x5_1 < (l1.length : Int) := of_decide_eq_true t6_; obtain ⟨ad225, e225, hx225_0, hx225_1, hx225_2⟩ := at_T80 HR1.out x5_1 p225 q225; have hw225_2 := hx225_2; have hw225_1 := hx225_1; have hw225_0 := hx225_0
             cases e225
             replace hx225_0 := cW HB hx225_0; replace hx225_1 := cW HB hx225_1; replace hx225_2 := cW HB hx225_2; replace p225 := eq_true p225; replace q225 := eq_true q225; refine start_ (n := 10) (S := fun w' => w'.cell? (ad224.add ((x5_1).toNat * 3)) = some (.string ((rd_T80 l0 x5_1).f0)) ∧ w'.cell? ⟨(ad224.add ((x5_1).toNat * 3)).block, (ad224.add ((x5_1).toNat * 3)).off + 1, none⟩ = some (.string ((rd_T80 l0 x5_1).f1)) ∧ w'.cell? ⟨(ad224.add ((x5_1).toNat * 3)).block, (ad224.add ((x5_1).toNat * 3)).off + 2, none⟩ = some (.bool ((rd_T80 l0 x5_1).f2)) ∧ w'.cell? (ad225.add ((x5_1).toNat * 3)) = some (.string ((rd_T80 l1 x5_1).f0)) ∧ w'.cell? ⟨(ad225.add ((x5_1).toNat * 3)).block, (ad225.add ((x5_1).toNat * 3)).off + 1, none⟩ = some (.string ((rd_T80 l1 x5_1).f1)) ∧ w'.cell? ⟨(ad225.add ((x5_1).toNat * 3)).block, (ad225.add ((x5_1).toNat * 3)).off + 2, none⟩ = some (.bool ((rd_T80 l1 x5_1).f2))) (ds := []) #[false, false, false, false, false, false, false, false, false, false] (by kernel_rfl) rfl rfl ⟨((HB.out.cell (World.block_lt_of_cell? w _ hw224_0)).trans hw224_0), ((HB.out.cell (World.block_lt_of_cell? w _ hw224_1)).trans hw224_1), ((HB.out.cell (World.block_lt_of_cell? w _ hw224_2)).trans hw224_2), ((HB.out.cell (World.block_lt_of_cell? w _ hw225_0)).trans hw225_0), ((HB.out.cell (World.block_lt_of_cell? w _ hw225_1)).trans hw225_1), ((HB.out.cell (World.block_lt_of_cell? w _ hw225_2)).trans hw225_2)⟩ (fun hHeld => ?_); refine with_tabW laws_eqChangeS.tab6 laws_eqChangeS.bits6 (fun HT_ HW_ => ?_)
             generalize wr.drew = w9 at HB hx224_0 hx224_1 hx224_2 hx225_0 hx225_1 hx225_2 hHeld ⊢; refine pure_ (i := 0) (N := some 17) (v := ?_) (a' := ?_) #[true, false, false, false, false, false, false, false, false, false] rfl rfl (any_of HT_.out (by kernel_rfl)) (fun _ _ _ h => h) (Or.inl ⟨by rfl, ?_⟩) ?_ ?_
             rotate_left
             · intro w'; go_simp; with_reducible rfl
             rotate_left
             · simp only [Act.put, ps1, ps2, ps3, i64_w, i32_w]; rfl
             refine pure_ (i := 1) (N := some 18) (v := ?_) (a' := ?_) #[true, true, false, false, false, false, false, false, false, false] rfl rfl (any_of HT_.out (by kernel_rfl)) (fun _ _ _ h => h) (Or.inl ⟨by rfl, ?_⟩) ?_ ?_
             rotate_left
             · intro w'; go_simp; with_reducible rfl
             rotate_left
             · simp only [Act.put, ps1, ps2, ps3, i64_w, i32_w]; rfl
             refine pure_ (i := 2) (N := some 19) (v := ?_) (a' := ?_) #[true, true, true, false, false, false, false, false, false, false] rfl rfl (any_of HT_.out (by kernel_rfl)) (fun _ _ _ h => h) (Or.inl ⟨by rfl, ?_⟩) ?_ ?_
             rotate_left
             · intro w'; go_simp; with_reducible rfl
             rotate_left
             · simp only [Act.put, ps1, ps2, ps3, i64_w, i32_w]; rfl
             refine pure_ (i := 4) (N := some 21) (v := ?_) (a' := ?_) #[true, true, true, false, true, false, false, false, false, false] rfl rfl (any_of HT_.out (by kernel_rfl)) (fun _ _ _ h => h) (Or.inl ⟨by rfl, ?_⟩) ?_ ?_
             rotate_left
             · intro w'; go_simp; with_reducible rfl
             rotate_left
             · simp only [Act.put, ps1, ps2, ps3, i64_w, i32_w]; rfl
             refine pure_ (i := 5) (N := some 22) (v := ?_) (a' := ?_) #[true, true, true, false, true, true, false, false, false, false] rfl rfl (any_of HT_.out (by kernel_rfl)) (fun _ _ _ h => h) (Or.inl ⟨by rfl, ?_⟩) ?_ ?_
             rotate_left
             · intro w'; go_simp; with_reducible rfl
             rotate_left
             · simp only [Act.put, ps1, ps2, ps3, i64_w, i32_w]; rfl
             refine pure_ (i := 6) (N := some 23) (v := ?_) (a' := ?_) #[true, true, true, false, true, true, true, false, false, false] rfl rfl (any_of HT_.out (by kernel_rfl)) (fun _ _ _ h => h) (Or.inl ⟨by rfl, ?_⟩) ?_ ?_
             rotate_left
             · intro w'; go_simp; with_reducible rfl
             rotate_left
             · simp only [Act.put, ps1, ps2, ps3, i64_w, i32_w]; rfl
             refine take_ (i := 3) (N := some 20) (v := ?_) (a' := ?_) #[true, true, true, true, true, true, true, false, false, false] rfl rfl (take_ofW HT_.out HW_.out (by kernel_rfl)) (fun _ _ _ h => h) (Or.inl ⟨by rfl, ?_⟩) hHeld ?_ ?_
             rotate_left
             · rintro w' ⟨s0, s1, s2, s3, s4, s5⟩; go_simp; with_reducible rfl
             rotate_left
             · simp only [Act.put, ps1, ps2, ps3, i64_w, i32_w]; rfl
             refine take_ (i := 7) (N := some 24) (v := ?_) (a' := ?_) #[true, true, true, true, true, true, true, true, false, false] rfl rfl (take_ofW HT_.out HW_.out (by kernel_rfl)) (fun _ _ _ h => h) (Or.inl ⟨by rfl, ?_⟩) hHeld ?_ ?_
             rotate_left
             · rintro w' ⟨s0, s1, s2, s3, s4, s5⟩; go_simp; with_reducible rfl
             rotate_left
             · simp only [Act.put, ps1, ps2, ps3, i64_w, i32_w]; rfl
             refine one_ (i := 8) (N := some 25) #[true, true, true, true, true, true, true, true, true, false] rfl rfl (one_of HT_.out (by kernel_rfl)) (by decide) (fun K hK => ?_)
             refine goes_ Try.func97 (by kernel_rfl) rfl #[.agg #[.string ((rd_T80 l0 x5_1).f0), .string ((rd_T80 l0 x5_1).f1), .bool ((rd_T80 l0 x5_1).f2)], .agg #[.string ((rd_T80 l1 x5_1).f0), .string ((rd_T80 l1 x5_1).f1), .bool ((rd_T80 l1 x5_1).f2)]] (by rfl) rfl rfl t5_ ?_
             with_reducible refine (laws_eqChange.calls ((rd_T80 l0 x5_1).f0) ((rd_T80 l0 x5_1).f1) ((rd_T80 l0 x5_1).f2) ((rd_T80 l1 x5_1).f0) ((rd_T80 l1 x5_1).f1) ((rd_T80 l1 x5_1).f2) true _ A7.out).mono ?_
             rintro e w10 ⟨rfl, hb⟩; refine ⟨_, rfl, ?_⟩
             replace HB := bS t0_ hb
             (try clear hb)
             (try clear hb2)
             (try clear hk)
             (try clear hi)
             refine hK.out _ _ ⟨((HB.out.cell (World.block_lt_of_cell? w _ hw224_0)).trans hw224_0), ((HB.out.cell (World.block_lt_of_cell? w _ hw224_1)).trans hw224_1), ((HB.out.cell (World.block_lt_of_cell? w _ hw224_2)).trans hw224_2), ((HB.out.cell (World.block_lt_of_cell? w _ hw225_0)).trans hw225_0), ((HB.out.cell (World.block_lt_of_cell? w _ hw225_1)).trans hw225_1), ((HB.out.cell (World.block_lt_of_cell? w _ hw225_2)).trans hw225_2)⟩ (fun hHeld => ?_)
             clear hK K; refine norm_ (a' := ?_) ?_ ?_
             rotate_left
             · show Act.put _ (some 25) _ = _
               simp only [Act.put, ps1, ps2, ps3, i64_w, i32_w]; rfl
             refine pure_ (i := 9) (N := some 26) (v := ?_) (a' := ?_) #[true, true, true, true, true, true, true, true, true, true] rfl rfl (any_of HT_.out (by kernel_rfl)) (fun _ _ _ h => h) (Or.inl ⟨by rfl, ?_⟩) ?_ ?_
             rotate_left
             · intro w'; go_simp; with_reducible rfl
             rotate_left
             · simp only [Act.put, ps1, ps2, ps3, i64_w, i32_w]; rfl
             refine done_ (done_of HT_.out (by kernel_rfl)) ?_
             try go_wp2
             go_roundg k1
             case measure => have := HK1.out; omega
             case rel => exact ⟨(wrap64 (x5_1 + 1)), t10_, H', ⟨by have := HK1.out; omega⟩, ⟨t0_⟩⟩
           · replace c8 := Bool.eq_false_iff.mpr c8; subst c8; have H1 : (none) = some r := by rw [if_neg (show ¬ (false = true) by decide)] at H; exact H
             clear H; have H := H1; clear H1; exact absurd H (by simp)
         · rw [if_neg c6] at H; exact absurd H (by simp)
       · rw [if_neg c5] at H; exact absurd H (by simp)
     · rw [if_neg c4] at H; have c4b0 : decide (x5_1 < (l0.length : Int)) = false := decide_eq_false c4; clear c4; obtain rfl := Option.some.inj H; go_wp2; go_ret; exact ⟨by first | rfl | (simp [errW_none, errW_some] <;> rfl) | (simp [*, errW_none, errW_some] <;> rfl), t0_⟩
 · rw [if_neg c3] at H; exact absurd H (by simp)

/-! ### laws_eqBatch: function 35 -/
def laws_eqBatch.f (k : Nat) (a0_0 : Int) (l0_1 : List (S80)) (a1_0 : Int) (l1_1 : List (S80)) : Option (Bool) := if a0_0 = a1_0 then ((laws_eqChangeS.f k l0_1 l1_1).bind fun t229 => (if t229 = true then (some true) else (none))) else (none)
theorem laws_eqBatch.mono : ∀ a0 a1 a2 a3 k, LeO (laws_eqBatch.f k a0 a1 a2 a3) (laws_eqBatch.f (k + 1) a0 a1 a2 a3) := by
 intro a0 a1 a2 a3 k
 unfold laws_eqBatch.f
 repeat' first
  | (with_reducible exact laws_eqChangeS.mono _ _ _)
  | (with_reducible exact LeO.refl _)
  | (with_reducible exact LeO.none _)
  | (with_reducible refine LeO.ite ?_ ?_)
  | (with_reducible refine LeO.bind ?_ (fun _ => ?_))
  | exact laws_eqChangeS.mono _ _ _
  | exact LeO.none _
  | refine LeO.ite ?_ ?_
  | refine LeO.bind ?_ (fun _ => ?_)
set_option maxHeartbeats 8000000 in
set_option maxRecDepth 100000 in
theorem laws_eqBatch.calls (k : Nat) (a0_0 : Int) (A0_1 : Option Addr) (c0_1 : Nat) (l0_1 : List (S80)) (a1_0 : Int) (A1_1 : Option Addr) (c1_1 : Nat) (l1_1 : List (S80)) (r : Bool) (w : World) (hr0_1 : Kd.C k80 w A0_1 l0_1.length l0_1) (hc0_1 : l0_1.length ≤ c0_1) (hr1_1 : Kd.C k80 w A1_1 l1_1.length l1_1) (hc1_1 : l1_1.length ≤ c1_1) (h : laws_eqBatch.f k a0_0 l0_1 a1_0 l1_1 = some r) :
 Calls Try.prog 35 #[.agg #[.int .i64 a0_0, .slice A0_1 l0_1.length c0_1], .agg #[.int .i64 a1_0, .slice A1_1 l1_1.length c1_1]] w fun e w' => e = .returned (.bool r) ∧ Below w.heap.size w w' := by
 have hu46 := Try.underlying46; have HR0_1 := Aside0.mk hr0_1; have HC0_1 := Aside0.mk hc0_1; clear hr0_1 hc0_1; have HR1_1 := Aside0.mk hr1_1; have HC1_1 := Aside0.mk hc1_1; clear hr1_1 hc1_1; have HB := Aside0.mk (Below.refl w.heap.size w); have H : (if a0_0 = a1_0 then ((laws_eqChangeS.f k l0_1 l1_1).bind fun t229 => (if t229 = true then (some true) else (none))) else (none)) = some r := h; clear h; by_cases c3 : a0_0 = a1_0
 · rw [if_pos c3] at H; have c3b0 : (a0_0 == a1_0) = true := beq_iff_eq.mpr c3; have c3b1 : (a0_0 != a1_0) = false := bne_eq_false_iff_eq.mpr c3; clear c3; replace H := Option.bind_eq_some_iff.mp H; obtain ⟨t229, A40, H⟩ := H; replace H : (if t229 = true then (some true) else (none)) = some r := H; have A4 := Aside0.mk A40; clear A40; by_cases c5 : t229 = true
   · subst c5; have H1 : (some true) = some r := by rw [if_pos rfl] at H; exact H
     clear H; have H := H1; clear H1; obtain rfl := Option.some.inj H; go_enter Try.func35, Try.ntmps35
     go_wp2_with (first | ((with_reducible refine gate_dst (N := 2) rfl ?_); refine boxE (N := 2) (cs := #[.int .i64 a0_0, .slice A0_1 l0_1.length c0_1]) (t := 46) (h := ?_); intro gb227 hg w6 hbox hb; have BK227 := Aside0.mk (hbox); have GW227 := Aside0.mk ((t7_ : w.heap.size ≤ gb227)); have GE227 := GW227; replace HB := bS t0_ hb; clear hb hbox hg) | ((with_reducible refine gate_dst (N := 3) rfl ?_); refine boxE (N := 3) (cs := #[.int .i64 a1_0, .slice A1_1 l1_1.length c1_1]) (t := 46) (h := ?_); intro gb228 hg w7 hbox hb; have BK228 := Aside0.mk (hbox); have GW228 := Aside0.mk ((by rw [hg]; exact (below_size (by repeat (first | (with_reducible first | exact HB.out | apply below_alloc | apply pw_below_drewN | apply below_drew1 | refine below_set ?_ GE227.out) | exact HB.out))) : w.heap.size ≤ gb228)); have GE228 := Aside0.mk ((by rw [hg]; exact (below_size (by repeat (first | (with_reducible first | exact HB.out | apply below_alloc | apply pw_below_drewN | apply below_drew1 | refine below_set ?_ GE227.out) | exact HB.out))) : w.heap.size ≤ gb228)); replace HB := Aside0.mk (below_step (by repeat (first | (with_reducible first | exact HB.out | apply below_alloc | apply pw_below_drewN | apply below_drew1 | refine below_set ?_ GE227.out) | exact HB.out)) hb); have NB227_228 := nbL BK227 hg; have NB228_227 := nbG BK227 hg; replace BK227 := bkN BK227 hb; clear hb hbox hg; have hnb8 := NB227_228.out; have hnc8 := NB228_227.out; obtain ⟨hcz9_0, hcz9_1, hfz9_0, hfz9_1⟩ := ba2 BK227; obtain ⟨hcz10_0, hcz10_1, hfz10_0, hfz10_1⟩ := ba2 BK228) | ((with_reducible refine gate_callee (f := 76) rfl ?_); refine goesL_ (some 14) rfl rfl Try.func76 (by kernel_rfl) rfl #[.slice A0_1 l0_1.length c0_1, .slice A1_1 l1_1.length c1_1] rfl t5_ ?_; (with_reducible refine (laws_eqChangeS.calls k _ _ l0_1 _ _ l1_1 true _ ?side1 ?side2 ?side3 ?side4 A4.out).mono ?_); (case side1 => exact cB HR0_1 HB); (case side2 => exact HC0_1.out); (case side3 => exact cB HR1_1 HB); (case side4 => exact HC1_1.out); rintro e w11 ⟨rfl, hb⟩; refine ⟨_, rfl, ?_⟩; replace BK227 := bkN BK227 hb; replace BK228 := bkN BK228 hb; replace HB := Aside0.mk (below_step (by repeat (first | (with_reducible first | exact HB.out | apply below_alloc | apply pw_below_drewN | apply below_drew1 | refine below_set ?_ GE227.out | refine below_set ?_ GE228.out) | exact HB.out)) hb); (try clear hb)))
     go_ret; exact ⟨by first | rfl | (simp [errW_none, errW_some] <;> rfl) | (simp [*, errW_none, errW_some] <;> rfl), by repeat (first | (with_reducible first | exact HB.out | apply below_alloc | apply pw_below_drewN | apply below_drew1 | refine below_set ?_ GE227.out | refine below_set ?_ GE228.out) | exact HB.out)⟩
   · replace c5 := Bool.eq_false_iff.mpr c5; subst c5; have H1 : (none) = some r := by rw [if_neg (show ¬ (false = true) by decide)] at H; exact H
     clear H; have H := H1; clear H1; exact absurd H (by simp)
 · rw [if_neg c3] at H; exact absurd H (by simp)

/-! ### laws_markText: function 98 -/
def laws_markText.l0 : Nat → Int → ByteArray → Option (ByteArray)
 | 0, _, _ => none
 | k + 1, x0, x3 => if x0 > 0 then ((some (([(wrap64 (48 + (Int.tmod x0 10))) % 256] : List Int) : List Int)).bind fun y230 => (if (strOfNums y230).size + x3.size ≤ 9223372036854775807 then (laws_markText.l0 k (wrap64 (Int.tdiv x0 10)) ((strOfNums y230) ++ x3)) else (none))) else (if 1 + x3.size ≤ 9223372036854775807 then (some ((⟨#[109]⟩ : ByteArray) ++ x3)) else (none))
def laws_markText.f (k : Nat) (a0 : Int) : Option (ByteArray) := if a0 ≤ 0 then (some (⟨#[109, 48]⟩ : ByteArray)) else (laws_markText.l0 k a0 (⟨#[]⟩ : ByteArray))
theorem laws_markText.mono_l : ∀ k, (∀ y0 y1, LeO (laws_markText.l0 k y0 y1) (laws_markText.l0 (k + 1) y0 y1))
 | 0 => fun _ _ r h => by simp [laws_markText.l0] at h
 | k + 1 => by
  have ih0 := laws_markText.mono_l k
  · intro y0 y1
    unfold laws_markText.l0
    repeat' first
    | (with_reducible exact ih0 _ _)
    | (with_reducible exact LeO.refl _)
    | (with_reducible exact LeO.none _)
    | (with_reducible refine LeO.ite ?_ ?_)
    | (with_reducible refine LeO.bind ?_ (fun _ => ?_))
    | exact ih0 _ _
    | exact LeO.none _
    | refine LeO.ite ?_ ?_
    | refine LeO.bind ?_ (fun _ => ?_)
theorem laws_markText.mono : ∀ a0 k, LeO (laws_markText.f k a0) (laws_markText.f (k + 1) a0) := by
 intro a0 k; have ih0 := laws_markText.mono_l k
 unfold laws_markText.f
 repeat' first
  | (with_reducible exact ih0 _ _)
  | (with_reducible exact LeO.refl _)
  | (with_reducible exact LeO.none _)
  | (with_reducible refine LeO.ite ?_ ?_)
  | (with_reducible refine LeO.bind ?_ (fun _ => ?_))
  | exact ih0 _ _
  | exact LeO.none _
  | refine LeO.ite ?_ ?_
  | refine LeO.bind ?_ (fun _ => ?_)
set_option maxHeartbeats 8000000 in
set_option maxRecDepth 100000 in
theorem laws_markText.calls (k : Nat) (a0 : Int) (r : ByteArray) (w : World) (h : laws_markText.f k a0 = some r) :
 Calls Try.prog 98 #[.int .i64 a0] w fun e w' => e = .returned (.string r) ∧ Below w.heap.size w w' := by
 have HB := Aside0.mk (Below.refl w.heap.size w); have H : (if a0 ≤ 0 then (some (⟨#[109, 48]⟩ : ByteArray)) else (laws_markText.l0 k a0 (⟨#[]⟩ : ByteArray))) = some r := h; clear h; by_cases c2 : a0 ≤ 0
 · rw [if_pos c2] at H; have c2b0 : decide (a0 ≤ 0) = true := decide_eq_true c2; clear c2; obtain rfl := Option.some.inj H; go_enter Try.func98, Try.ntmps98; go_wp2; go_ret; exact ⟨by first | rfl | (simp [errW_none, errW_some] <;> rfl) | (simp [*, errW_none, errW_some] <;> rfl), t0_⟩
 · rw [if_neg c2] at H; have c2b0 : decide (a0 ≤ 0) = false := decide_eq_false c2; clear c2; have H' := Aside0.mk H; clear H; go_enter Try.func98, Try.ntmps98; go_wp2
   go_loopg [0, 3] k (fun kq v0 v3 w' => ∃ (x0_1 : Int) (x3_1 : ByteArray), v0 = .int .i64 x0_1 ∧ v3 = .string x3_1 ∧ Aside0 (laws_markText.l0 kq x0_1 x3_1 = some r) ∧ Aside0 (kq ≤ k) ∧ Aside0 (Below w.heap.size w w'))
   case atStart => exact ⟨(a0), ((⟨#[]⟩ : ByteArray)), t10_, t10_, H', ⟨Nat.le_refl _⟩, ⟨t0_⟩⟩
   case round =>
    clear H'
    try clear c2
    try clear c2b0
    try clear p2
    obtain ⟨x0_1, x3_1, rfl, rfl, HA, HK1, HB⟩ := hrel
    cases gk with
    | zero => exact absurd HA.out (by simp [laws_markText.l0])
    | succ k1 =>
     have H := HA.out; clear HA; simp only [laws_markText.l0] at H; by_cases c3 : x0_1 > 0
     · rw [if_pos c3] at H; have c3b0 : decide (0 < x0_1) = true := decide_eq_true c3; clear c3; obtain ⟨y230, hy230⟩ : ∃ y_ : List Int, y_ = (([(wrap64 (48 + (Int.tmod x0_1 10))) % 256] : List Int)) := ⟨_, rfl⟩; replace H : (if (strOfNums y230).size + x3_1.size ≤ 9223372036854775807 then (laws_markText.l0 k1 (wrap64 (Int.tdiv x0_1 10)) ((strOfNums y230) ++ x3_1)) else (none)) = some r := by first | (rw [hy230]; with_reducible exact H) | (have H2_ := (Option.bind_some _ _).symm.trans H; rw [hy230]; with_reducible exact H2_) | (have H2_ := (Option.bind_some _ _).symm.trans H; with_reducible exact H2_) | with_reducible exact H | (rw [hy230]; exact H) | exact H
       have Ny230 := Aside0.mk hy230; clear hy230; by_cases c4 : (strOfNums y230).size + x3_1.size ≤ 9223372036854775807
       · rw [if_pos c4] at H; have c4b0 := eq_true c4; have c4b1 : decide ((strOfNums y230).size + x3_1.size ≤ 9223372036854775807) = true := decide_eq_true c4
         try have c4b2 : (9223372036854775807 < (strOfNums y230).size + x3_1.size) = False := eq_false (Nat.not_lt.2 c4)
         have H' := Aside0.mk H; clear H
         go_wp2_with (first | ((with_reducible refine gate_dst (N := 12) rfl ?_); refine Kd.R_lit (Kd.int .u8) _ 5 ?hg (N := 12) ?hd (xs := ([(wrap64 (48 + (Int.tmod x0_1 10))) % 256] : List Int)) (inner := [.int .u8 ((wrap64 (48 + (Int.tmod x0_1 10))) % 256)]) (ok := fun _ => True) (okp := fun _ => True) ?hr ?hp (fun _ hk => hk) trivial (Below.refl _ _) (Nat.le_refl _) (by simp) ?_; (case hd => rfl); (case hg => rfl); (case hr => first | (go_simp; done) | (go_simp; rfl)); (case hp => exact (Reps.one (show Kd.M (Kd.int .u8) _ _ _ ((wrap64 (48 + (Int.tmod x0_1 10))) % 256) [.int .u8 ((wrap64 (48 + (Int.tmod x0_1 10))) % 256)] from rfl) (Reps.none _ _))); intro v231 w5 ho6 hb hg_ hnew_; clear hg_ hnew_; (first | rw [← Ny230.out] at ho6 | (simp only [Int.reduceToNat] at ho6; rw [← Ny230.out] at ho6)); have HO232 := Aside0.mk (Kd.R_lower ho6 (below_size t0_)); replace HB := bS t0_ hb; clear hb ho6; have hcv7 := own_string (P := Try.prog) Try.underlying22 Try.underlying5 Try.underlying9 (Kd.own_of_R HO232.out)))
         go_roundg k1
         case measure => have := HK1.out; omega
         case rel => exact ⟨(wrap64 (Int.tdiv x0_1 10)), ((strOfNums y230) ++ x3_1), t10_, t10_, H', ⟨by have := HK1.out; omega⟩, ⟨t0_⟩⟩
       · rw [if_neg c4] at H; exact absurd H (by simp)
     · rw [if_neg c3] at H; have c3b0 : decide (0 < x0_1) = false := decide_eq_false c3; clear c3; by_cases c8 : 1 + x3_1.size ≤ 9223372036854775807
       · rw [if_pos c8] at H; have c8b0 := eq_true c8; have c8b1 : decide (1 + x3_1.size ≤ 9223372036854775807) = true := decide_eq_true c8
         try have c8b2 : (9223372036854775807 < 1 + x3_1.size) = False := eq_false (Nat.not_lt.2 c8)
         obtain rfl := Option.some.inj H; go_wp2; go_ret; exact ⟨by first | rfl | (simp [errW_none, errW_some] <;> rfl) | (simp [*, errW_none, errW_some] <;> rfl), t0_⟩
       · rw [if_neg c8] at H; exact absurd H (by simp)

end Go.Proofs.Ytpnncgfmihjlkaa.QFnExactReadBatch
