-- By a program of this session, over the kit's print.
import Derived.Test.YtpnncgfmihjlkaaQFnExactReadManifestx0
import Derived.Test.YtpnncgfmihjlkaaQFnExactReadManifestx6
import Derived.Test.YtpnncgfmihjlkaaQFnExactReadManifestx7
import Derived.Test.YtpnncgfmihjlkaaQFnExactReadManifestx9
namespace Go.Proofs.Ytpnncgfmihjlkaa.QFnExactReadManifest
open Go.RowKit Go.Proofs.YtpnncgfmihjlkaaW.PrintWords Go.Proofs.YtpnncgfmihjlkaaW.PrintLast Go.Proofs.YtpnncgfmihjlkaaW.PrintMore
attribute [local go_sem] max2_int min2_int max_two min_two max_three min_three max_four min_four   -- for this text's walks alone
set_option linter.unusedVariables false
set_option linter.unusedSimpArgs false

/-! ### spec_ReadManifest: function 31 -/
mutual
def spec_ReadManifest.j1 : Nat → ByteArray → ByteArray → Int → Bool → List Int → Int → Int → Int → Option (List Int × Int × Int × Int × List Int × Bool)
 | 0, _, _, _, _, _, _, _, _ => none
 | k + 1, x0, x191000, x191001, x191002, x192000, x192001, x192002, x192003 => (spec_l05Var.f k x191000 x191001 x191002).bind fun bt203 => ((spec_l05Var.f k bt203.2.1 bt203.2.2.1 bt203.2.2.2).bind fun bt207 => ((spec_l05Var.f k bt207.2.1 bt207.2.2.1 bt207.2.2.2).bind fun bt211 => ((spec_l05Var.f k bt211.2.1 bt211.2.2.1 bt211.2.2.2).bind fun bt215 => (spec_ReadManifest.l1 k x0 bt215.1 0 bt215.2.1 bt215.2.2.1 bt215.2.2.2 x192000 bt203.1 bt207.1 bt211.1 ([] : List Int)))))
def spec_ReadManifest.l1 : Nat → ByteArray → Int → Int → ByteArray → Int → Bool → List Int → Int → Int → Int → List Int → Option (List Int × Int × Int × Int × List Int × Bool)
 | 0, _, _, _, _, _, _, _, _, _, _, _ => none
 | k + 1, x0, x8, x10, x191000, x191001, x191002, x192000, x192001, x192002, x192003, x192004 => if x10 < x8 then (if x191002 = true then ((spec_ManifestText.f k x192000 x192001 x192002 x192003 x192004).bind fun bt219 => (some (([] : List Int), 0, 0, 0, ([] : List Int), false))) else (if x10 ≤ 4 then ((spec_l05Var.f k x191000 x191001 x191002).bind fun bt221 => (if x192004.length < 17592186044416 then (spec_ReadManifest.l1 k x0 x8 (wrap64 (x10 + 1)) bt221.2.1 bt221.2.2.1 bt221.2.2.2 x192000 x192001 x192002 x192003 (x192004 ++ [bt221.1])) else (none))) else ((spec_ManifestText.f k x192000 x192001 x192002 x192003 x192004).bind fun bt228 => (if bt228.2 = true then (if bt228.1.toList = x0.toList then (some (x192000, x192001, x192002, x192003, x192004, true)) else (some (([] : List Int), 0, 0, 0, ([] : List Int), false))) else (some (([] : List Int), 0, 0, 0, ([] : List Int), false)))))) else ((spec_ManifestText.f k x192000 x192001 x192002 x192003 x192004).bind fun bt230 => (if x191002 = true then (some (([] : List Int), 0, 0, 0, ([] : List Int), false)) else (if bt230.2 = true then (if bt230.1.toList = x0.toList then (some (x192000, x192001, x192002, x192003, x192004, true)) else (some (([] : List Int), 0, 0, 0, ([] : List Int), false))) else (some (([] : List Int), 0, 0, 0, ([] : List Int), false)))))
def spec_ReadManifest.l0 : Nat → ByteArray → Int → Int → ByteArray → Int → Bool → List Int → Int → Int → Int → Option (List Int × Int × Int × Int × List Int × Bool)
 | 0, _, _, _, _, _, _, _, _, _, _ => none
 | k + 1, x0, x8, x9, x191000, x191001, x191002, x192000, x192001, x192002, x192003 => if x9 < x8 then (if x191002 = true then (spec_ReadManifest.j1 k x0 x191000 x191001 x191002 x192000 x192001 x192002 x192003) else (if x9 ≤ 8 then ((spec_l05Var.f k x191000 x191001 x191002).bind fun bt196 => (if x192000.length < 17592186044416 then (spec_ReadManifest.l0 k x0 x8 (wrap64 (x9 + 1)) bt196.2.1 bt196.2.2.1 bt196.2.2.2 (x192000 ++ [bt196.1]) x192001 x192002 x192003) else (none))) else (spec_ReadManifest.j1 k x0 x191000 x191001 x191002 x192000 x192001 x192002 x192003))) else (spec_ReadManifest.j1 k x0 x191000 x191001 x191002 x192000 x192001 x192002 x192003)
end
def spec_ReadManifest.f (k : Nat) (a0 : ByteArray) : Option (List Int × Int × Int × Int × List Int × Bool) := (spec_Unsealed.f k a0).bind fun bt188 => ((spec_l05Var.f k bt188.1 0 (!bt188.2)).bind fun bt192 => (spec_ReadManifest.l0 k a0 bt192.1 0 bt192.2.1 bt192.2.2.1 bt192.2.2.2 ([] : List Int) 0 0 0))
theorem spec_ReadManifest.mono_l : ∀ k, (∀ y0 y1 y2 y3 y4 y5 y6 y7, LeO (spec_ReadManifest.j1 k y0 y1 y2 y3 y4 y5 y6 y7) (spec_ReadManifest.j1 (k + 1) y0 y1 y2 y3 y4 y5 y6 y7)) ∧ (∀ y0 y1 y2 y3 y4 y5 y6 y7 y8 y9 y10, LeO (spec_ReadManifest.l1 k y0 y1 y2 y3 y4 y5 y6 y7 y8 y9 y10) (spec_ReadManifest.l1 (k + 1) y0 y1 y2 y3 y4 y5 y6 y7 y8 y9 y10)) ∧ (∀ y0 y1 y2 y3 y4 y5 y6 y7 y8 y9, LeO (spec_ReadManifest.l0 k y0 y1 y2 y3 y4 y5 y6 y7 y8 y9) (spec_ReadManifest.l0 (k + 1) y0 y1 y2 y3 y4 y5 y6 y7 y8 y9))
 | 0 => ⟨fun _ _ _ _ _ _ _ _ r h => by simp [spec_ReadManifest.j1] at h, fun _ _ _ _ _ _ _ _ _ _ _ r h => by simp [spec_ReadManifest.l1] at h, fun _ _ _ _ _ _ _ _ _ _ r h => by simp [spec_ReadManifest.l0] at h⟩
 | k + 1 => by
  obtain ⟨ih0, ih1, ih2⟩ := spec_ReadManifest.mono_l k; refine ⟨?_, ?_, ?_⟩
  · intro y0 y1 y2 y3 y4 y5 y6 y7
    unfold spec_ReadManifest.j1
    repeat' first
    | (with_reducible exact ih0 _ _ _ _ _ _ _ _)
    | (with_reducible exact ih1 _ _ _ _ _ _ _ _ _ _ _)
    | (with_reducible exact ih2 _ _ _ _ _ _ _ _ _ _)
    | (with_reducible exact spec_ManifestText.mono _ _ _ _ _ _)
    | (with_reducible exact spec_Unsealed.mono _ _)
    | (with_reducible exact spec_l05Var.mono _ _ _ _)
    | (with_reducible exact LeO.refl _)
    | (with_reducible exact LeO.none _)
    | (with_reducible refine LeO.ite ?_ ?_)
    | (with_reducible refine LeO.bind ?_ (fun _ => ?_))
    | exact ih0 _ _ _ _ _ _ _ _
    | exact ih1 _ _ _ _ _ _ _ _ _ _ _
    | exact ih2 _ _ _ _ _ _ _ _ _ _
    | exact spec_ManifestText.mono _ _ _ _ _ _
    | exact spec_Unsealed.mono _ _
    | exact spec_l05Var.mono _ _ _ _
    | exact LeO.none _
    | refine LeO.ite ?_ ?_
    | refine LeO.bind ?_ (fun _ => ?_)
  · intro y0 y1 y2 y3 y4 y5 y6 y7 y8 y9 y10
    unfold spec_ReadManifest.l1
    repeat' first
    | (with_reducible exact ih0 _ _ _ _ _ _ _ _)
    | (with_reducible exact ih1 _ _ _ _ _ _ _ _ _ _ _)
    | (with_reducible exact ih2 _ _ _ _ _ _ _ _ _ _)
    | (with_reducible exact spec_ManifestText.mono _ _ _ _ _ _)
    | (with_reducible exact spec_Unsealed.mono _ _)
    | (with_reducible exact spec_l05Var.mono _ _ _ _)
    | (with_reducible exact LeO.refl _)
    | (with_reducible exact LeO.none _)
    | (with_reducible refine LeO.ite ?_ ?_)
    | (with_reducible refine LeO.bind ?_ (fun _ => ?_))
    | exact ih0 _ _ _ _ _ _ _ _
    | exact ih1 _ _ _ _ _ _ _ _ _ _ _
    | exact ih2 _ _ _ _ _ _ _ _ _ _
    | exact spec_ManifestText.mono _ _ _ _ _ _
    | exact spec_Unsealed.mono _ _
    | exact spec_l05Var.mono _ _ _ _
    | exact LeO.none _
    | refine LeO.ite ?_ ?_
    | refine LeO.bind ?_ (fun _ => ?_)
  · intro y0 y1 y2 y3 y4 y5 y6 y7 y8 y9
    unfold spec_ReadManifest.l0
    repeat' first
    | (with_reducible exact ih0 _ _ _ _ _ _ _ _)
    | (with_reducible exact ih1 _ _ _ _ _ _ _ _ _ _ _)
    | (with_reducible exact ih2 _ _ _ _ _ _ _ _ _ _)
    | (with_reducible exact spec_ManifestText.mono _ _ _ _ _ _)
    | (with_reducible exact spec_Unsealed.mono _ _)
    | (with_reducible exact spec_l05Var.mono _ _ _ _)
    | (with_reducible exact LeO.refl _)
    | (with_reducible exact LeO.none _)
    | (with_reducible refine LeO.ite ?_ ?_)
    | (with_reducible refine LeO.bind ?_ (fun _ => ?_))
    | exact ih0 _ _ _ _ _ _ _ _
    | exact ih1 _ _ _ _ _ _ _ _ _ _ _
    | exact ih2 _ _ _ _ _ _ _ _ _ _
    | exact spec_ManifestText.mono _ _ _ _ _ _
    | exact spec_Unsealed.mono _ _
    | exact spec_l05Var.mono _ _ _ _
    | exact LeO.none _
    | refine LeO.ite ?_ ?_
    | refine LeO.bind ?_ (fun _ => ?_)
theorem spec_ReadManifest.mono : ∀ a0 k, LeO (spec_ReadManifest.f k a0) (spec_ReadManifest.f (k + 1) a0) := by
 intro a0 k; obtain ⟨ih0, ih1, ih2⟩ := spec_ReadManifest.mono_l k
 unfold spec_ReadManifest.f
 repeat' first
  | (with_reducible exact ih0 _ _ _ _ _ _ _ _)
  | (with_reducible exact ih1 _ _ _ _ _ _ _ _ _ _ _)
  | (with_reducible exact ih2 _ _ _ _ _ _ _ _ _ _)
  | (with_reducible exact spec_ManifestText.mono _ _ _ _ _ _)
  | (with_reducible exact spec_Unsealed.mono _ _)
  | (with_reducible exact spec_l05Var.mono _ _ _ _)
  | (with_reducible exact LeO.refl _)
  | (with_reducible exact LeO.none _)
  | (with_reducible refine LeO.ite ?_ ?_)
  | (with_reducible refine LeO.bind ?_ (fun _ => ?_))
  | exact ih0 _ _ _ _ _ _ _ _
  | exact ih1 _ _ _ _ _ _ _ _ _ _ _
  | exact ih2 _ _ _ _ _ _ _ _ _ _
  | exact spec_ManifestText.mono _ _ _ _ _ _
  | exact spec_Unsealed.mono _ _
  | exact spec_l05Var.mono _ _ _ _
  | exact LeO.none _
  | refine LeO.ite ?_ ?_
  | refine LeO.bind ?_ (fun _ => ?_)
def spec_ReadManifest.T8 : Bool × List (List Nat × List Nat) := (true, [([], []), ([0], [0]), ([], []), ([2], [2]), ([3], [3]), ([1, 4, 3], [1, 4]), ([0, 1, 2, 3, 4, 5], []), ([6, 5, 5, 0, 1, 2, 3, 4, 5], [5, 6])])
def spec_ReadManifest.B8 : List Nat := [0, 1, 0, 4, 12, 31, 63, 127]
theorem spec_ReadManifest.tab8 : rtab .any (opsOf Try.f31 8) = spec_ReadManifest.T8 := by kernel_rfl
theorem spec_ReadManifest.bits8 : waitsOk spec_ReadManifest.T8.2 spec_ReadManifest.B8 = true := by kernel_rfl
def spec_ReadManifest.T16 : Bool × List (List Nat × List Nat) := (true, [([], []), ([0], [0]), ([], []), ([2], [2]), ([3], [3]), ([1, 4, 3], [1, 4]), ([0, 1, 2, 3, 4, 5], []), ([6, 5, 5, 0, 1, 2, 3, 4, 5], [5, 6])])
def spec_ReadManifest.B16 : List Nat := [0, 1, 0, 4, 12, 31, 63, 127]
theorem spec_ReadManifest.tab16 : rtab .any (opsOf Try.f31 16) = spec_ReadManifest.T16 := by kernel_rfl
theorem spec_ReadManifest.bits16 : waitsOk spec_ReadManifest.T16.2 spec_ReadManifest.B16 = true := by kernel_rfl
set_option maxHeartbeats 8000000 in
set_option maxRecDepth 100000 in
theorem spec_ReadManifest.calls (k : Nat) (a0 : ByteArray) (r1 : List Int) (r2 : Int) (r3 : Int) (r4 : Int) (r5 : List Int) (r6 : Bool) (w : World) (h : spec_ReadManifest.f k a0 = some (r1, r2, r3, r4, r5, r6)) :
 Calls Try.prog 31 #[.string a0] w fun e w' => ∃ v0_ v4_ : Value, e = .returned (.tuple #[.agg #[v0_, .int .i64 r2, .int .i64 r3, .int .i64 r4, v4_], .bool r6]) ∧ Kd.R (Kd.int .i64) 3 w' w.heap.size (fun k_ => some k_ ≠ (v4_ : Value).ownBlock) v0_ r1 ∧ Kd.R (Kd.int .i64) 3 w' w.heap.size (fun k_ => some k_ ≠ (v0_ : Value).ownBlock) v4_ r5 ∧ Below w.heap.size w w' := by
 have hu36 := Try.underlying36; have hu86 := Try.underlying86; have HB := Aside0.mk (Below.refl w.heap.size w); have H : ((spec_Unsealed.f k a0).bind fun bt188 => ((spec_l05Var.f k bt188.1 0 (!bt188.2)).bind fun bt192 => (spec_ReadManifest.l0 k a0 bt192.1 0 bt192.2.1 bt192.2.2.1 bt192.2.2.2 ([] : List Int) 0 0 0))) = some (r1, r2, r3, r4, r5, r6) := h; clear h; replace H := Option.bind_eq_some_iff.mp H; obtain ⟨⟨t188, t189⟩, A20, H⟩ := H; replace H : ((spec_l05Var.f k t188 0 (!t189)).bind fun bt192 => (spec_ReadManifest.l0 k a0 bt192.1 0 bt192.2.1 bt192.2.2.1 bt192.2.2.2 ([] : List Int) 0 0 0)) = some (r1, r2, r3, r4, r5, r6) := H; have A2 := Aside0.mk A20; clear A20; replace H := Option.bind_eq_some_iff.mp H; obtain ⟨⟨t192, t193, t194, t195⟩, A30, H⟩ := H; replace H : (spec_ReadManifest.l0 k a0 t192 0 t193 t194 t195 ([] : List Int) 0 0 0) = some (r1, r2, r3, r4, r5, r6) := H; have A3 := Aside0.mk A30; clear A30; have HC4 := Aside0.mk H; clear H; go_enter Try.func31, Try.ntmps31
 go_upto_block 0 with (first | ((with_reducible refine gate_dst (N := 2) rfl ?_); refine boxE (N := 2) (cs := #[.slice none 0 0, .int .i64 0, .int .i64 0, .int .i64 0, .slice none 0 0]) (t := 36) (h := ?_); intro gb187 hg w5 hbox hb; have BK187 := Aside0.mk (hbox); have GW187 := Aside0.mk ((t5_ : w.heap.size ≤ gb187)); have GE187 := GW187; replace HB := bS t0_ hb; clear hb hbox hg) | ((with_reducible refine gate_callee (f := 69) rfl ?_); refine goesL_ (some 15) rfl rfl Try.func69 (by kernel_rfl) rfl #[.string a0] rfl t1_ ?_; (with_reducible refine (spec_Unsealed.calls k a0 t188 t189 _ A2.out).mono ?_); rintro e w6 ⟨rfl, hb⟩; refine ⟨_, rfl, ?_⟩; replace BK187 := bkN BK187 hb; replace HB := Aside0.mk (below_step (by repeat (first | (with_reducible first | exact HB.out | apply below_alloc | apply pw_below_drewN | apply below_drew1 | refine below_set ?_ GE187.out) | exact HB.out)) hb); (try clear hb)) | ((with_reducible refine gate_dst (N := 22) rfl ?_); refine boxE (N := 22) (cs := #[.string t188, .int .i64 0, .bool (!t189)]) (t := 86) (h := ?_); intro gb190 hg w7 hbox hb; have NB187_190 := nbL BK187 hg; have NB190_187 := nbG BK187 hg; replace BK187 := bkN BK187 hb; have HI190 := Aside0.mk ((show IsS86 w w7 gb190 t188 0 (!t189) from ⟨hbox, (by rw [hg]; exact (below_size (by repeat (first | (with_reducible first | exact HB.out | apply below_alloc | apply pw_below_drewN | apply below_drew1 | refine below_set ?_ GE187.out) | exact HB.out))) : w.heap.size ≤ gb190)⟩)); replace HB := Aside0.mk (below_step (by repeat (first | (with_reducible first | exact HB.out | apply below_alloc | apply pw_below_drewN | apply below_drew1 | refine below_set ?_ GE187.out) | exact HB.out)) hb); clear hb hbox hg) | ((with_reducible refine gate_dst (N := 7) rfl ?_); refine boxE (N := 7) (cs := #[.slice none 0 0, .int .i64 0, .int .i64 0, .int .i64 0, .slice none 0 0]) (t := 36) (h := ?_); intro gb191 hg w8 hbox hb; have BK191 := Aside0.mk (hbox); have GW191 := Aside0.mk ((by rw [hg]; exact (below_size (by repeat (first | (with_reducible first | exact HB.out | apply below_alloc | apply pw_below_drewN | apply below_drew1 | refine below_set ?_ (IsS86.ge HI190.out) | refine below_set ?_ GE187.out) | exact HB.out))) : w.heap.size ≤ gb191)); have GE191 := Aside0.mk ((by rw [hg]; exact (below_size (by repeat (first | (with_reducible first | exact HB.out | apply below_alloc | apply pw_below_drewN | apply below_drew1 | refine below_set ?_ (IsS86.ge HI190.out) | refine below_set ?_ GE187.out) | exact HB.out))) : w.heap.size ≤ gb191)); replace HB := Aside0.mk (below_step (by repeat (first | (with_reducible first | exact HB.out | apply below_alloc | apply pw_below_drewN | apply below_drew1 | refine below_set ?_ (IsS86.ge HI190.out) | refine below_set ?_ GE187.out) | exact HB.out)) hb); have NB187_191 := nbL BK187 hg; have NB191_187 := nbG BK187 hg; replace BK187 := bkN BK187 hb; have NB190_191 := Aside0.mk ((by rw [hg]; exact Nat.ne_of_lt (IsS86.lt (show IsS86 w _ gb190 t188 0 (!t189) from by repeat (first | (with_reducible first | exact HI190.out | apply IsS86.alloc | apply IsS86.drewN | apply IsS86.drew | apply IsS86.set_0 | apply IsS86.set_1 | apply IsS86.set_2 | refine IsS86.far ?_ NB190_187.out _) | exact HI190.out))) : gb190 ≠ gb191)); have NB191_190 := Aside0.mk ((by rw [hg]; exact Nat.ne_of_gt (IsS86.lt (show IsS86 w _ gb190 t188 0 (!t189) from by repeat (first | (with_reducible first | exact HI190.out | apply IsS86.alloc | apply IsS86.drewN | apply IsS86.drew | apply IsS86.set_0 | apply IsS86.set_1 | apply IsS86.set_2 | refine IsS86.far ?_ NB190_187.out _) | exact HI190.out))) : gb191 ≠ gb190)); replace HI190 := Aside0.mk (IsS86.below (by repeat (first | (with_reducible first | exact HI190.out | apply IsS86.alloc | apply IsS86.drewN | apply IsS86.drew | apply IsS86.set_0 | apply IsS86.set_1 | apply IsS86.set_2 | refine IsS86.far ?_ NB190_187.out _) | exact HI190.out)) hb); clear hb hbox hg; have hnb9 := NB191_187.out; have hnc9 := NB187_191.out; have hnb10 := NB191_190.out; have hnc10 := NB190_191.out; have hcz11_0 := bc0 BK191; have hcz11_1 := bc1 BK191; have hcz11_2 := bc2 BK191; have hcz11_3 := bc3 BK191; have hcz11_4 := bc4 BK191; have hfz11_0 := bf BK191 0; have hfz11_1 := bf BK191 1; have hfz11_2 := bf BK191 2; have hfz11_3 := bf BK191 3; have hfz11_4 := bf BK191 4) | ((with_reducible refine gate_callee (f := 70) rfl ?_); refine goesL_ (some 25) rfl rfl Try.func70 (by kernel_rfl) rfl #[.pointer (some ⟨gb190, 0, none⟩)] rfl t1_ ?_; (with_reducible refine (spec_l05Var.calls k gb190 t188 0 (!t189) t192 t193 t194 t195 w _ ?side1 ?side2 A3.out).mono ?_); (case side1 => repeat (first | (with_reducible first | exact HI190.out | apply IsS86.alloc | apply IsS86.drewN | apply IsS86.drew | apply IsS86.set_0 | apply IsS86.set_1 | apply IsS86.set_2 | refine IsS86.far ?_ NB190_187.out _ | refine IsS86.far ?_ NB190_191.out _) | exact HI190.out)); (case side2 => repeat (first | (with_reducible first | exact HB.out | apply below_alloc | apply pw_below_drewN | apply below_drew1 | refine below_set ?_ (IsS86.ge HI190.out) | refine below_set ?_ GE187.out | refine below_set ?_ GE191.out) | exact HB.out)); rintro e w12 ⟨rfl, hi, hb, hk⟩; refine ⟨_, rfl, ?_⟩; replace BK187 := Aside0.mk (KeepBut.blk hk (g' := gb187) (o := .cells #[.slice none 0 0, .int .i64 0, .int .i64 0, .int .i64 0, .slice none 0 0] 36 (0, 0)) (zF5 BK187 NB187_191 NB187_191 NB187_191 NB187_191 NB187_191) NB187_190.out (by simp)); replace BK191 := Aside0.mk (KeepBut.blk hk (g' := gb191) (o := .cells #[.slice none 0 0, .int .i64 0, .int .i64 0, .int .i64 0, .slice none 0 0] 36 (0, 0)) (by (with_reducible repeat (first | refine blk_drewN ?_ _ | refine blk_drew ?_ | refine blk_alloc ?_ _)); refine blk_put (cs := #[.slice none 0 0, .int .i64 0, .int .i64 0, .int .i64 0, .slice none 0 0]) ?_ 4 _ rfl; (with_reducible repeat (first | refine blk_drewN ?_ _ | refine blk_drew ?_ | refine blk_alloc ?_ _)); refine blk_put (cs := #[.slice none 0 0, .int .i64 0, .int .i64 0, .int .i64 0, .slice none 0 0]) ?_ 3 _ rfl; (with_reducible repeat (first | refine blk_drewN ?_ _ | refine blk_drew ?_ | refine blk_alloc ?_ _)); refine blk_put (cs := #[.slice none 0 0, .int .i64 0, .int .i64 0, .int .i64 0, .slice none 0 0]) ?_ 2 _ rfl; (with_reducible repeat (first | refine blk_drewN ?_ _ | refine blk_drew ?_ | refine blk_alloc ?_ _)); refine blk_put (cs := #[.slice none 0 0, .int .i64 0, .int .i64 0, .int .i64 0, .slice none 0 0]) ?_ 1 _ rfl; (with_reducible repeat (first | refine blk_drewN ?_ _ | refine blk_drew ?_ | refine blk_alloc ?_ _)); refine blk_put (cs := #[.slice none 0 0, .int .i64 0, .int .i64 0, .int .i64 0, .slice none 0 0]) ?_ 0 _ rfl; (with_reducible repeat (first | refine blk_drewN ?_ _ | refine blk_drew ?_ | refine blk_alloc ?_ _)); exact BK191.out) NB191_190.out (by simp)); replace HB := Aside0.mk (hb); replace HI190 := Aside0.mk (hi); (try clear hb); (try clear hk); (try clear hi)))
 (try simp only [Act.put, List.setIfInBounds_toArray, List.set_cons_zero, List.set_cons_succ])
 go_cut [] (fun wc => ∃ (kq : Nat) (x191000_3 : ByteArray) (x191001_3 : Int) (x191002_3 : Bool) (x192000_3 : List Int) (u192000 : Value), Aside0 (spec_ReadManifest.j1 kq a0 x191000_3 x191001_3 x191002_3 x192000_3 0 0 0 = some (r1, r2, r3, r4, r5, r6)) ∧ Aside0 (kq ≤ k) ∧ Aside0 (Kd.R (Kd.int .i64) 3 wc w.heap.size (fun _ => True) u192000 x192000_3) ∧ Aside0 (wc.heap[gb187]? = some (.cells #[(.slice none 0 0), .int .i64 0, .int .i64 0, .int .i64 0, (.slice none 0 0)] 36 (0, 0))) ∧ Aside0 (wc.heap[gb191]? = some (.cells #[u192000, .int .i64 0, .int .i64 0, .int .i64 0, (.slice none 0 0)] 36 (0, 0))) ∧ Aside0 (IsS86 w wc gb190 x191000_3 x191001_3 x191002_3) ∧ Aside0 (Below w.heap.size w wc))
 case first =>
  have H := HC4.out; clear HC4; have H' := Aside0.mk H; clear H; go_wp2
  go_loopg [9] k (fun kq v9 w' => ∃ (x9_1 : Int) (x191000_1 : ByteArray) (x191001_1 : Int) (x191002_1 : Bool) (x192000_1 : List Int) (u192000 : Value), v9 = .int .i64 x9_1 ∧ Aside0 (spec_ReadManifest.l0 kq a0 t192 x9_1 x191000_1 x191001_1 x191002_1 x192000_1 0 0 0 = some (r1, r2, r3, r4, r5, r6)) ∧ Aside0 (kq ≤ k) ∧ Aside0 (Kd.R (Kd.int .i64) 3 w' w.heap.size (fun _ => True) u192000 x192000_1) ∧ Aside0 (w'.heap[gb187]? = some (.cells #[(.slice none 0 0), .int .i64 0, .int .i64 0, .int .i64 0, (.slice none 0 0)] 36 (0, 0))) ∧ Aside0 (w'.heap[gb191]? = some (.cells #[u192000, .int .i64 0, .int .i64 0, .int .i64 0, (.slice none 0 0)] 36 (0, 0))) ∧ Aside0 (IsS86 w w' gb190 x191000_1 x191001_1 x191002_1) ∧ Aside0 (Below w.heap.size w w'))
  case atStart => exact ⟨(0), (t193), (t194), (t195), (([] : List Int)), (.slice none 0 0), t6_, H', ⟨Nat.le_refl _⟩, ⟨by first | exact Kd.R_nil _ _ _ _ _ | exact Kd.N_nil _ _ _ _ _ | exact Kd.V_nil _ _ _ _ _ | exact Kd.Q_nil _ _ _ _ _ | exact Kd.S_nil _ _ _ _ _⟩, ⟨zN BK187⟩, ⟨zN BK191⟩, ⟨t4_⟩, ⟨t2_⟩⟩
  case round =>
   clear H'
   try clear c1
   try clear p2
   try clear c3
   try clear c6
   try clear c7
   try clear c9
   try clear c10
   try clear hcz11_0
   try clear hcz11_1
   try clear hcz11_2
   try clear hcz11_3
   try clear hcz11_4
   try clear hfz11_0
   try clear hfz11_1
   try clear hfz11_2
   try clear hfz11_3
   try clear hfz11_4
   obtain ⟨x9_1, x191000_1, x191001_1, x191002_1, x192000_1, u192000, rfl, HA, HK1, HO_192000, BK187, BK191, HI190, HB⟩ := hrel
   cases gk with
   | zero => exact absurd HA.out (by simp [spec_ReadManifest.l0])
   | succ k1 =>
    have H := HA.out; clear HA; simp only [spec_ReadManifest.l0] at H; by_cases c13 : x9_1 < t192
    · rw [if_pos c13] at H; have c13b0 : decide (x9_1 < t192) = true := decide_eq_true c13; clear c13
      (first | rw [c13b0] | (simp only [i64_w, i32_w]; rw [c13b0]) | skip)
      by_cases c14 : x191002_1 = true
      · subst c14; have H1 : (spec_ReadManifest.j1 k1 a0 x191000_1 x191001_1 true x192000_1 0 0 0) = some (r1, r2, r3, r4, r5, r6) := by rw [if_pos rfl] at H; exact H
        clear H; have H := H1; clear H1; have H' := Aside0.mk H; clear H; obtain ⟨HGz15, hgz15⟩ := HI190.out; have hcz15_0 := cellS86_0 HGz15; have hcz15_1 := cellS86_1 HGz15; have hcz15_2 := cellS86_2 HGz15; have hfz15_0 := blk_frozen HGz15 0; have hfz15_1 := blk_frozen HGz15 1; have hfz15_2 := blk_frozen HGz15 2; clear HGz15 hgz15; go_wp2; go_meet
        case rel => exact ⟨_, (x191000_1), (x191001_1), (true), (x192000_1), (u192000), H', ⟨by have := HK1.out; first | omega | exact Nat.le_refl _⟩, ⟨zK HO_192000⟩, ⟨zN BK187⟩, ⟨zN BK191⟩, ⟨t4_⟩, ⟨t2_⟩⟩
      · replace c14 := Bool.eq_false_iff.mpr c14; subst c14; have H1 : (if x9_1 ≤ 8 then ((spec_l05Var.f k1 x191000_1 x191001_1 false).bind fun bt196 => (if x192000_1.length < 17592186044416 then (spec_ReadManifest.l0 k1 a0 t192 (wrap64 (x9_1 + 1)) bt196.2.1 bt196.2.2.1 bt196.2.2.2 (x192000_1 ++ [bt196.1]) 0 0 0) else (none))) else (spec_ReadManifest.j1 k1 a0 x191000_1 x191001_1 false x192000_1 0 0 0)) = some (r1, r2, r3, r4, r5, r6) := by rw [if_neg (show ¬ (false = true) by decide)] at H; exact H
        clear H; have H := H1; clear H1; by_cases c16 : x9_1 ≤ 8
        · rw [if_pos c16] at H; have c16b0 : decide (x9_1 ≤ 8) = true := decide_eq_true c16; clear c16; replace H := Option.bind_eq_some_iff.mp H; obtain ⟨⟨t196, t197, t198, t199⟩, A170, H⟩ := H; replace H : (if x192000_1.length < 17592186044416 then (spec_ReadManifest.l0 k1 a0 t192 (wrap64 (x9_1 + 1)) t197 t198 t199 (x192000_1 ++ [t196]) 0 0 0) else (none)) = some (r1, r2, r3, r4, r5, r6) := H; have A17 := Aside0.mk A170; clear A170; by_cases c18 : x192000_1.length < 17592186044416
          · rw [if_pos c18] at H; have LMc18 := Aside0.mk c18; clear c18; obtain ⟨y200, hy200⟩ : ∃ y_ : List Int, y_ = (x192000_1 ++ [t196]) := ⟨_, rfl⟩; replace H : (spec_ReadManifest.l0 k1 a0 t192 (wrap64 (x9_1 + 1)) t197 t198 t199 y200 0 0 0) = some (r1, r2, r3, r4, r5, r6) := by first | (rw [hy200]; with_reducible exact H) | (have H2_ := (Option.bind_some _ _).symm.trans H; rw [hy200]; with_reducible exact H2_) | (have H2_ := (Option.bind_some _ _).symm.trans H; with_reducible exact H2_) | with_reducible exact H | (rw [hy200]; exact H) | exact H
            have Ny200 := Aside0.mk hy200; clear hy200; have H' := Aside0.mk H; clear H; obtain ⟨HGz19, hgz19⟩ := HI190.out; have hcz19_0 := cellS86_0 HGz19; have hcz19_1 := cellS86_1 HGz19; have hcz19_2 := cellS86_2 HGz19; have hfz19_0 := blk_frozen HGz19 0; have hfz19_1 := blk_frozen HGz19 1; have hfz19_2 := blk_frozen HGz19 2; clear HGz19 hgz19
            try go_wp2
            replace HO_192000 := Aside0.mk (Kd.R_drew HO_192000.out); replace BK187 := Aside0.mk (blk_drew BK187.out); replace BK191 := Aside0.mk (blk_drew BK191.out); replace HI190 := Aside0.mk (IsS86.drew HI190.out); replace HB := Aside0.mk (below_drew1 HB.out); refine start_ (n := 8) (S := fun w' => w'.cell? ⟨gb191, 0, none⟩ = some (u192000) ∧ w'.cell? ⟨gb191, 1, none⟩ = some (.int .i64 0) ∧ w'.cell? ⟨gb191, 2, none⟩ = some (.int .i64 0) ∧ w'.cell? ⟨gb191, 3, none⟩ = some (.int .i64 0) ∧ w'.cell? ⟨gb191, 4, none⟩ = some (.slice none 0 0)) (ds := [7]) #[false, false, false, false, false, false, false, false] (by kernel_rfl) rfl rfl ⟨bc0 BK191, bc1 BK191, bc2 BK191, bc3 BK191, bc4 BK191⟩ (fun hHeld => ?_); refine with_tabW spec_ReadManifest.tab8 spec_ReadManifest.bits8 (fun HT_ HW_ => ?_)
            generalize wr.drew = w20 at HO_192000 BK187 BK191 HI190 HB hHeld ⊢; refine pure_ (i := 0) (N := some 42) (v := ?_) (a' := ?_) #[true, false, false, false, false, false, false, false] rfl rfl (any_of HT_.out (by kernel_rfl)) (fun _ _ _ h => h) (Or.inl ⟨by rfl, ?_⟩) ?_ ?_
            rotate_left
            · intro w'; go_simp; with_reducible rfl
            rotate_left
            · simp only [Act.put, ps1, ps2, ps3, i64_w, i32_w]; rfl
            refine pure_ (i := 2) (N := some 44) (v := ?_) (a' := ?_) #[true, false, true, false, false, false, false, false] rfl rfl (any_of HT_.out (by kernel_rfl)) (fun _ _ _ h => h) (Or.inl ⟨by rfl, ?_⟩) ?_ ?_
            rotate_left
            · intro w'; go_simp; with_reducible rfl
            rotate_left
            · simp only [Act.put, ps1, ps2, ps3, i64_w, i32_w]; rfl
            refine take_ (i := 1) (N := some 43) (v := ?_) (a' := ?_) #[true, true, true, false, false, false, false, false] rfl rfl (take_ofW HT_.out HW_.out (by kernel_rfl)) (fun _ _ _ h => h) (Or.inl ⟨by rfl, ?_⟩) hHeld ?_ ?_
            rotate_left
            · rintro w' ⟨s0, s1, s2, s3, s4⟩; go_simp; with_reducible rfl
            rotate_left
            · simp only [Act.put, ps1, ps2, ps3, i64_w, i32_w]; rfl
            refine one_ (i := 3) (N := some 45) #[true, true, true, true, false, false, false, false] rfl rfl (one_of HT_.out (by kernel_rfl)) (by decide) (fun K hK => ?_)
            refine goes_ Try.func70 (by kernel_rfl) rfl #[.pointer (some ⟨gb190, 0, none⟩)] (by rfl) rfl rfl t1_ ?_
            with_reducible refine (spec_l05Var.calls k1 gb190 x191000_1 x191001_1 false t196 t197 t198 t199 w _ ?side1 ?side2 A17.out).mono ?_
            (case side1 => repeat (first | (with_reducible first | exact HI190.out | apply IsS86.alloc | apply IsS86.drewN | apply IsS86.drew | apply IsS86.set_0 | apply IsS86.set_1 | apply IsS86.set_2 | refine IsS86.far ?_ NB190_187.out _ | refine IsS86.far ?_ NB190_191.out _) | exact HI190.out))
            (case side2 => repeat (first | (with_reducible first | exact HB.out | apply below_alloc | apply pw_below_drewN | apply below_drew1 | refine below_set ?_ (IsS86.ge HI190.out) | refine below_set ?_ GE187.out | refine below_set ?_ GE191.out) | exact HB.out))
            rintro e w21 ⟨rfl, hi, hb, hk⟩; refine ⟨_, rfl, ?_⟩
            replace HO_192000 := Aside0.mk (Kd.R_mono (Kd.R_keep (IsS86.apart (show IsS86 w _ gb190 x191000_1 x191001_1 false from by repeat (first | (with_reducible first | exact HI190.out | apply IsS86.alloc | apply IsS86.drewN | apply IsS86.drew | apply IsS86.set_0 | apply IsS86.set_1 | apply IsS86.set_2 | refine IsS86.far ?_ NB190_187.out _ | refine IsS86.far ?_ NB190_191.out _) | exact HI190.out)) t15_ (by decide)) hk (fun _ h => h.2)) (fun _ h => h.1)); replace BK187 := Aside0.mk (KeepBut.blk hk (g' := gb187) (o := .cells #[.slice none 0 0, .int .i64 0, .int .i64 0, .int .i64 0, .slice none 0 0] 36 (0, 0)) t27_ NB187_190.out (by simp)); replace BK191 := Aside0.mk (KeepBut.blk hk (g' := gb191) (o := .cells #[u192000, .int .i64 0, .int .i64 0, .int .i64 0, .slice none 0 0] 36 (0, 0)) t28_ NB191_190.out (by simp)); replace HB := Aside0.mk (hb); replace HI190 := Aside0.mk (hi)
            (try clear hb)
            (try clear hb2)
            (try clear hk)
            (try clear hi)
            refine hK.out _ _ ⟨bc0 BK191, bc1 BK191, bc2 BK191, bc3 BK191, bc4 BK191⟩ (fun hHeld => ?_)
            clear hK K; refine norm_ (a' := ?_) ?_ ?_
            rotate_left
            · show Act.put _ (some 45) _ = _
              simp only [Act.put, ps1, ps2, ps3, i64_w, i32_w]; rfl
            refine one_ (i := 4) (N := some 46) #[true, true, true, true, true, false, false, false] rfl rfl (one_of HT_.out (by kernel_rfl)) (by decide) (fun K hK => ?_)
            refine value_ (w1 := ?_) (v := ?_) (by rfl) rfl ?_ ?_
            rotate_left 2
            · go_simp
              constructor
              · rfl
              · rfl
            refine hK.out _ _ ⟨(blk_cell (blk_alloc BK191.out _) 0).trans rfl, (blk_cell (blk_alloc BK191.out _) 1).trans rfl, (blk_cell (blk_alloc BK191.out _) 2).trans rfl, (blk_cell (blk_alloc BK191.out _) 3).trans rfl, (blk_cell (blk_alloc BK191.out _) 4).trans rfl⟩ (fun hHeld => ?_)
            clear hK K; refine norm_ (a' := ?_) ?_ ?_
            rotate_left
            · show Act.put _ (some 46) _ = _
              simp only [Act.put, ps1, ps2, ps3, i64_w, i32_w]; rfl
            refine one_ (i := 5) (N := some 47) #[true, true, true, true, true, true, false, false] rfl rfl (one_of HT_.out (by kernel_rfl)) (by decide) (fun K hK => ?_)
            refine Kd.R_append_step (Kd.int .i64) (w0 := w) w.heap.size (by rfl) (.tmp 43) (.tmp 46) 25 3 (.int .i64 0) 8 rfl Try.underlying25 info3 rfl (by decide) (by omega) u192000 x192000_1 t196 [.int .i64 t196] (fun _ => True) (fun _ => False) rfl rfl ?aP (fun _ hk => hk.elim) ?aF ?aO ?aB ?aS ?aL ?_
            (case aP => exact rfl)
            (case aB => exact t2_)
            (case aF => exact (fun _ _ => trivial))
            (case aO => exact t15_)
            (case aS => exact (below_size t2_))
            (case aL => have := LMc18.out; omega)
            intro v201 w22 ho hb hg hat; rw [← Ny200.out] at ho; have n0_ := Aside0.mk (blk_grown (g := gb187) (o := .cells #[.slice none 0 0, .int .i64 0, .int .i64 0, .int .i64 0, .slice none 0 0] 36 (0, 0)) t27_ hg (Kd.R_ne HO_192000.out BK187.out (by decide))); have n1_ := Aside0.mk (blk_grown (g := gb191) (o := .cells #[u192000, .int .i64 0, .int .i64 0, .int .i64 0, .slice none 0 0] 36 (0, 0)) t28_ hg (Kd.R_ne HO_192000.out BK191.out (by decide))); have n2_ := Aside0.mk (IsS86.grown t4_ hg (IsS86.own_ne HI190.out HO_192000.out (by decide))); have n3_ := Aside0.mk (hb); have n4_ := Aside0.mk (ho); clear BK187; clear BK191; clear HI190; clear HB; clear HO_192000; have BK187 := n0_; have BK191 := n1_; have HI190 := n2_; have HB := n3_; have HO202 := n4_; clear n0_ n1_ n2_ n3_ n4_; clear ho hb hg hat; obtain ⟨Ao23, co23, eo23⟩ := Kd.R_slice HO202.out
            (first | subst eo23 | (injection eo23 with f1_ f2_ f3_; have f4_ := f1_.symm; have f5_ := f3_.symm; clear f1_ f2_ f3_; subst f4_; subst f5_))
            refine hK.out _ _ ⟨bc0 BK191, bc1 BK191, bc2 BK191, bc3 BK191, bc4 BK191⟩ (fun hHeld => ?_)
            clear hK K; refine norm_ (a' := ?_) ?_ ?_
            rotate_left
            · show Act.put _ (some 47) _ = _
              simp only [Act.put, ps1, ps2, ps3, i64_w, i32_w]; rfl
            refine pure_ (i := 6) (N := some 48) (v := ?_) (a' := ?_) #[true, true, true, true, true, true, true, false] rfl rfl (any_of HT_.out (by kernel_rfl)) (fun _ _ _ h => h) (Or.inl ⟨by rfl, ?_⟩) ?_ ?_
            rotate_left
            · intro w'; go_simp; with_reducible rfl
            rotate_left
            · simp only [Act.put, ps1, ps2, ps3, i64_w, i32_w]; rfl
            refine last_ (i := 7) (N := none) #[true, true, true, true, true, true, true, true] rfl rfl (one_of HT_.out (by kernel_rfl)) (by decide) (fun K hK => ?_)
            have hs24 : w22.cell? ⟨gb191, 0, none⟩ = some (u192000) := bc0 BK191; have hfs24 := bf BK191 0; have hns24_0 := NB187_191.out; have hms24_0 := NB191_187.out; refine skip_ (w1 := ?_) (by rfl) rfl ?_ ?_
            rotate_left
            · go_simp; rfl
            refine hK.out _ _ ?_
            clear hK K; refine done_ (done_of HT_.out (by kernel_rfl)) ?_
            try go_wp2
            go_roundg k1
            case measure => have := HK1.out; omega
            case rel => exact ⟨(wrap64 (x9_1 + 1)), (t197), (t198), (t199), (y200), (.slice Ao23 y200.length co23), t6_, H', ⟨by have := HK1.out; omega⟩, ⟨rG HO202 BK191⟩, ⟨zF1 BK187 NB187_191⟩, ⟨zP BK191⟩, ⟨t4_⟩, ⟨t2_⟩⟩
          · rw [if_neg c18] at H; exact absurd H (by simp)
        · rw [if_neg c16] at H; have c16b0 : decide (x9_1 ≤ 8) = false := decide_eq_false c16; clear c16; have H' := Aside0.mk H; clear H; obtain ⟨HGz25, hgz25⟩ := HI190.out; have hcz25_0 := cellS86_0 HGz25; have hcz25_1 := cellS86_1 HGz25; have hcz25_2 := cellS86_2 HGz25; have hfz25_0 := blk_frozen HGz25 0; have hfz25_1 := blk_frozen HGz25 1; have hfz25_2 := blk_frozen HGz25 2; clear HGz25 hgz25; go_wp2; go_meet
          case rel => exact ⟨_, (x191000_1), (x191001_1), (false), (x192000_1), (u192000), H', ⟨by have := HK1.out; first | omega | exact Nat.le_refl _⟩, ⟨zK HO_192000⟩, ⟨zN BK187⟩, ⟨zN BK191⟩, ⟨t4_⟩, ⟨t2_⟩⟩
    · rw [if_neg c13] at H; have c13b0 : decide (x9_1 < t192) = false := decide_eq_false c13; clear c13
      (first | rw [c13b0] | (simp only [i64_w, i32_w]; rw [c13b0]) | skip)
      have H' := Aside0.mk H; clear H; go_wp2; go_meet
      case rel => exact ⟨_, (x191000_1), (x191001_1), (x191002_1), (x192000_1), (u192000), H', ⟨by have := HK1.out; first | omega | exact Nat.le_refl _⟩, ⟨zK HO_192000⟩, ⟨zN BK187⟩, ⟨zN BK191⟩, ⟨t4_⟩, ⟨t2_⟩⟩
 case rest =>
  clear HC4
  try clear c1
  try clear p2
  try clear c3
  try clear c6
  try clear p6
  try clear c7
  try clear c9
  try clear c10
  try clear c13
  try clear c13b0
  try clear c14
  try clear c16
  try clear c16b0
  try clear c18
  try clear hcz11_0
  try clear hcz11_1
  try clear hcz11_2
  try clear hcz11_3
  try clear hcz11_4
  try clear hcz15_0
  try clear hcz15_1
  try clear hcz15_2
  try clear hcz19_0
  try clear hcz19_1
  try clear hcz19_2
  try clear hcz25_0
  try clear hcz25_1
  try clear hcz25_2
  try clear hfz11_0
  try clear hfz11_1
  try clear hfz11_2
  try clear hfz11_3
  try clear hfz11_4
  try clear hfz15_0
  try clear hfz15_1
  try clear hfz15_2
  try clear hfz19_0
  try clear hfz19_1
  try clear hfz19_2
  try clear hfz25_0
  try clear hfz25_1
  try clear hfz25_2
  try clear p2
  obtain ⟨kq, x191000_3, x191001_3, x191002_3, x192000_3, u192000, HA, HJ3, HO_192000, BK187, BK191, HI190, HB⟩ := hcut
  cases kq with
  | zero => exact absurd HA.out (by simp [spec_ReadManifest.j1])
  | succ kj3 =>
   have H := HA.out; clear HA; simp only [spec_ReadManifest.j1] at H; replace H := Option.bind_eq_some_iff.mp H; obtain ⟨⟨t203, t204, t205, t206⟩, A260, H⟩ := H; replace H : ((spec_l05Var.f kj3 t204 t205 t206).bind fun bt207 => ((spec_l05Var.f kj3 bt207.2.1 bt207.2.2.1 bt207.2.2.2).bind fun bt211 => ((spec_l05Var.f kj3 bt211.2.1 bt211.2.2.1 bt211.2.2.2).bind fun bt215 => (spec_ReadManifest.l1 kj3 a0 bt215.1 0 bt215.2.1 bt215.2.2.1 bt215.2.2.2 x192000_3 t203 bt207.1 bt211.1 ([] : List Int))))) = some (r1, r2, r3, r4, r5, r6) := H; have A26 := Aside0.mk A260; clear A260; replace H := Option.bind_eq_some_iff.mp H; obtain ⟨⟨t207, t208, t209, t210⟩, A270, H⟩ := H; replace H : ((spec_l05Var.f kj3 t208 t209 t210).bind fun bt211 => ((spec_l05Var.f kj3 bt211.2.1 bt211.2.2.1 bt211.2.2.2).bind fun bt215 => (spec_ReadManifest.l1 kj3 a0 bt215.1 0 bt215.2.1 bt215.2.2.1 bt215.2.2.2 x192000_3 t203 t207 bt211.1 ([] : List Int)))) = some (r1, r2, r3, r4, r5, r6) := H; have A27 := Aside0.mk A270; clear A270; replace H := Option.bind_eq_some_iff.mp H; obtain ⟨⟨t211, t212, t213, t214⟩, A280, H⟩ := H; replace H : ((spec_l05Var.f kj3 t212 t213 t214).bind fun bt215 => (spec_ReadManifest.l1 kj3 a0 bt215.1 0 bt215.2.1 bt215.2.2.1 bt215.2.2.2 x192000_3 t203 t207 t211 ([] : List Int))) = some (r1, r2, r3, r4, r5, r6) := H; have A28 := Aside0.mk A280; clear A280; replace H := Option.bind_eq_some_iff.mp H; obtain ⟨⟨t215, t216, t217, t218⟩, A290, H⟩ := H; replace H : (spec_ReadManifest.l1 kj3 a0 t215 0 t216 t217 t218 x192000_3 t203 t207 t211 ([] : List Int)) = some (r1, r2, r3, r4, r5, r6) := H; have A29 := Aside0.mk A290; clear A290; have H' := Aside0.mk H; clear H
   go_wp2_with (first | ((with_reducible refine gate_callee (f := 70) rfl ?_); refine goesL_ (some 50) rfl rfl Try.func70 (by kernel_rfl) rfl #[.pointer (some ⟨gb190, 0, none⟩)] rfl t1_ ?_; (with_reducible refine (spec_l05Var.calls kj3 gb190 x191000_3 x191001_3 x191002_3 t203 t204 t205 t206 w _ ?side1 ?side2 A26.out).mono ?_); (case side1 => repeat (first | (with_reducible first | exact HI190.out | apply IsS86.alloc | apply IsS86.drewN | apply IsS86.drew | apply IsS86.set_0 | apply IsS86.set_1 | apply IsS86.set_2 | refine IsS86.far ?_ NB190_187.out _ | refine IsS86.far ?_ NB190_191.out _) | exact HI190.out)); (case side2 => repeat (first | (with_reducible first | exact HB.out | apply below_alloc | apply pw_below_drewN | apply below_drew1 | refine below_set ?_ (IsS86.ge HI190.out) | refine below_set ?_ GE187.out | refine below_set ?_ GE191.out) | exact HB.out)); rintro e w30 ⟨rfl, hi, hb, hk⟩; refine ⟨_, rfl, ?_⟩; replace HO_192000 := Aside0.mk (Kd.R_mono (Kd.R_keep (IsS86.apart (show IsS86 w _ gb190 x191000_3 x191001_3 x191002_3 from by repeat (first | (with_reducible first | exact HI190.out | apply IsS86.alloc | apply IsS86.drewN | apply IsS86.drew | apply IsS86.set_0 | apply IsS86.set_1 | apply IsS86.set_2 | refine IsS86.far ?_ NB190_187.out _ | refine IsS86.far ?_ NB190_191.out _) | exact HI190.out)) t15_ (by decide)) hk (fun _ h => h.2)) (fun _ h => h.1)); replace BK187 := Aside0.mk (KeepBut.blk hk (g' := gb187) (o := .cells #[.slice none 0 0, .int .i64 0, .int .i64 0, .int .i64 0, .slice none 0 0] 36 (0, 0)) t27_ NB187_190.out (by simp)); replace BK191 := Aside0.mk (KeepBut.blk hk (g' := gb191) (o := .cells #[u192000, .int .i64 0, .int .i64 0, .int .i64 0, .slice none 0 0] 36 (0, 0)) t28_ NB191_190.out (by simp)); replace HB := Aside0.mk (hb); replace HI190 := Aside0.mk (hi); (try clear hb); (try clear hk); (try clear hi); have hnb31 := NB191_187.out; have hnc31 := NB187_191.out; have hnb32 := NB191_190.out; have hnc32 := NB190_191.out; have hcz33_0 := bc0 BK191; have hcz33_1 := bc1 BK191; have hcz33_2 := bc2 BK191; have hcz33_3 := bc3 BK191; have hcz33_4 := bc4 BK191; have hfz33_0 := bf BK191 0; have hfz33_1 := bf BK191 1; have hfz33_2 := bf BK191 2; have hfz33_3 := bf BK191 3; have hfz33_4 := bf BK191 4) | ((with_reducible refine gate_callee (f := 70) rfl ?_); refine goesL_ (some 53) rfl rfl Try.func70 (by kernel_rfl) rfl #[.pointer (some ⟨gb190, 0, none⟩)] rfl t1_ ?_; (with_reducible refine (spec_l05Var.calls kj3 gb190 t204 t205 t206 t207 t208 t209 t210 w _ ?side1 ?side2 A27.out).mono ?_); (case side1 => repeat (first | (with_reducible first | exact HI190.out | apply IsS86.alloc | apply IsS86.drewN | apply IsS86.drew | apply IsS86.set_0 | apply IsS86.set_1 | apply IsS86.set_2 | refine IsS86.far ?_ NB190_187.out _ | refine IsS86.far ?_ NB190_191.out _) | exact HI190.out)); (case side2 => repeat (first | (with_reducible first | exact HB.out | apply below_alloc | apply pw_below_drewN | apply below_drew1 | refine below_set ?_ (IsS86.ge HI190.out) | refine below_set ?_ GE187.out | refine below_set ?_ GE191.out) | exact HB.out)); rintro e w34 ⟨rfl, hi, hb, hk⟩; refine ⟨_, rfl, ?_⟩; replace HO_192000 := Aside0.mk (Kd.R_mono (Kd.R_keep (IsS86.apart (show IsS86 w _ gb190 t204 t205 t206 from by repeat (first | (with_reducible first | exact HI190.out | apply IsS86.alloc | apply IsS86.drewN | apply IsS86.drew | apply IsS86.set_0 | apply IsS86.set_1 | apply IsS86.set_2 | refine IsS86.far ?_ NB190_187.out _ | refine IsS86.far ?_ NB190_191.out _) | exact HI190.out)) (by (with_reducible repeat (first | apply Kd.R_alloc | apply Kd.R_drewN | apply Kd.R_drew)); exact (Kd.R_mono (Kd.R_far (p := ⟨gb191, 1, none⟩) (Kd.R_types HO_192000.out BK191.out (by decide)) (fun _ hk => hk.2) (.int .i64 t203)) (fun _ h_ => h_.1))) (by decide)) hk (fun _ h => h.2)) (fun _ h => h.1)); replace BK187 := Aside0.mk (KeepBut.blk hk (g' := gb187) (o := .cells #[.slice none 0 0, .int .i64 0, .int .i64 0, .int .i64 0, .slice none 0 0] 36 (0, 0)) (zF1 BK187 NB187_191) NB187_190.out (by simp)); replace BK191 := Aside0.mk (KeepBut.blk hk (g' := gb191) (o := .cells #[u192000, .int .i64 t203, .int .i64 0, .int .i64 0, .slice none 0 0] 36 (0, 0)) (zP BK191) NB191_190.out (by simp)); replace HB := Aside0.mk (hb); replace HI190 := Aside0.mk (hi); (try clear hb); (try clear hk); (try clear hi); have hcz35_0 := bc0 BK191; have hcz35_1 := bc1 BK191; have hcz35_2 := bc2 BK191; have hcz35_3 := bc3 BK191; have hcz35_4 := bc4 BK191; have hfz35_0 := bf BK191 0; have hfz35_1 := bf BK191 1; have hfz35_2 := bf BK191 2; have hfz35_3 := bf BK191 3; have hfz35_4 := bf BK191 4) | ((with_reducible refine gate_callee (f := 70) rfl ?_); refine goesL_ (some 56) rfl rfl Try.func70 (by kernel_rfl) rfl #[.pointer (some ⟨gb190, 0, none⟩)] rfl t1_ ?_; (with_reducible refine (spec_l05Var.calls kj3 gb190 t208 t209 t210 t211 t212 t213 t214 w _ ?side1 ?side2 A28.out).mono ?_); (case side1 => repeat (first | (with_reducible first | exact HI190.out | apply IsS86.alloc | apply IsS86.drewN | apply IsS86.drew | apply IsS86.set_0 | apply IsS86.set_1 | apply IsS86.set_2 | refine IsS86.far ?_ NB190_187.out _ | refine IsS86.far ?_ NB190_191.out _) | exact HI190.out)); (case side2 => repeat (first | (with_reducible first | exact HB.out | apply below_alloc | apply pw_below_drewN | apply below_drew1 | refine below_set ?_ (IsS86.ge HI190.out) | refine below_set ?_ GE187.out | refine below_set ?_ GE191.out) | exact HB.out)); rintro e w36 ⟨rfl, hi, hb, hk⟩; refine ⟨_, rfl, ?_⟩; replace HO_192000 := Aside0.mk (Kd.R_mono (Kd.R_keep (IsS86.apart (show IsS86 w _ gb190 t208 t209 t210 from by repeat (first | (with_reducible first | exact HI190.out | apply IsS86.alloc | apply IsS86.drewN | apply IsS86.drew | apply IsS86.set_0 | apply IsS86.set_1 | apply IsS86.set_2 | refine IsS86.far ?_ NB190_187.out _ | refine IsS86.far ?_ NB190_191.out _) | exact HI190.out)) (by (with_reducible repeat (first | apply Kd.R_alloc | apply Kd.R_drewN | apply Kd.R_drew)); exact (Kd.R_mono (Kd.R_far (p := ⟨gb191, 2, none⟩) (Kd.R_types HO_192000.out BK191.out (by decide)) (fun _ hk => hk.2) (.int .i64 t207)) (fun _ h_ => h_.1))) (by decide)) hk (fun _ h => h.2)) (fun _ h => h.1)); replace BK187 := Aside0.mk (KeepBut.blk hk (g' := gb187) (o := .cells #[.slice none 0 0, .int .i64 0, .int .i64 0, .int .i64 0, .slice none 0 0] 36 (0, 0)) (zF1 BK187 NB187_191) NB187_190.out (by simp)); replace BK191 := Aside0.mk (KeepBut.blk hk (g' := gb191) (o := .cells #[u192000, .int .i64 t203, .int .i64 t207, .int .i64 0, .slice none 0 0] 36 (0, 0)) (zP BK191) NB191_190.out (by simp)); replace HB := Aside0.mk (hb); replace HI190 := Aside0.mk (hi); (try clear hb); (try clear hk); (try clear hi); have hcz37_0 := bc0 BK191; have hcz37_1 := bc1 BK191; have hcz37_2 := bc2 BK191; have hcz37_3 := bc3 BK191; have hcz37_4 := bc4 BK191; have hfz37_0 := bf BK191 0; have hfz37_1 := bf BK191 1; have hfz37_2 := bf BK191 2; have hfz37_3 := bf BK191 3; have hfz37_4 := bf BK191 4) | ((with_reducible refine gate_callee (f := 70) rfl ?_); refine goesL_ (some 59) rfl rfl Try.func70 (by kernel_rfl) rfl #[.pointer (some ⟨gb190, 0, none⟩)] rfl t1_ ?_; (with_reducible refine (spec_l05Var.calls kj3 gb190 t212 t213 t214 t215 t216 t217 t218 w _ ?side1 ?side2 A29.out).mono ?_); (case side1 => repeat (first | (with_reducible first | exact HI190.out | apply IsS86.alloc | apply IsS86.drewN | apply IsS86.drew | apply IsS86.set_0 | apply IsS86.set_1 | apply IsS86.set_2 | refine IsS86.far ?_ NB190_187.out _ | refine IsS86.far ?_ NB190_191.out _) | exact HI190.out)); (case side2 => repeat (first | (with_reducible first | exact HB.out | apply below_alloc | apply pw_below_drewN | apply below_drew1 | refine below_set ?_ (IsS86.ge HI190.out) | refine below_set ?_ GE187.out | refine below_set ?_ GE191.out) | exact HB.out)); rintro e w38 ⟨rfl, hi, hb, hk⟩; refine ⟨_, rfl, ?_⟩; replace HO_192000 := Aside0.mk (Kd.R_mono (Kd.R_keep (IsS86.apart (show IsS86 w _ gb190 t212 t213 t214 from by repeat (first | (with_reducible first | exact HI190.out | apply IsS86.alloc | apply IsS86.drewN | apply IsS86.drew | apply IsS86.set_0 | apply IsS86.set_1 | apply IsS86.set_2 | refine IsS86.far ?_ NB190_187.out _ | refine IsS86.far ?_ NB190_191.out _) | exact HI190.out)) (by (with_reducible repeat (first | apply Kd.R_alloc | apply Kd.R_drewN | apply Kd.R_drew)); exact (Kd.R_mono (Kd.R_far (p := ⟨gb191, 3, none⟩) (Kd.R_types HO_192000.out BK191.out (by decide)) (fun _ hk => hk.2) (.int .i64 t211)) (fun _ h_ => h_.1))) (by decide)) hk (fun _ h => h.2)) (fun _ h => h.1)); replace BK187 := Aside0.mk (KeepBut.blk hk (g' := gb187) (o := .cells #[.slice none 0 0, .int .i64 0, .int .i64 0, .int .i64 0, .slice none 0 0] 36 (0, 0)) (zF1 BK187 NB187_191) NB187_190.out (by simp)); replace BK191 := Aside0.mk (KeepBut.blk hk (g' := gb191) (o := .cells #[u192000, .int .i64 t203, .int .i64 t207, .int .i64 t211, .slice none 0 0] 36 (0, 0)) (zP BK191) NB191_190.out (by simp)); replace HB := Aside0.mk (hb); replace HI190 := Aside0.mk (hi); (try clear hb); (try clear hk); (try clear hi)))
   go_loopg [10] kj3 (fun kq v10 w' => ∃ (x10_2 : Int) (x191000_2 : ByteArray) (x191001_2 : Int) (x191002_2 : Bool) (x192004_2 : List Int) (u192004 : Value), v10 = .int .i64 x10_2 ∧ Aside0 (spec_ReadManifest.l1 kq a0 t215 x10_2 x191000_2 x191001_2 x191002_2 x192000_3 t203 t207 t211 x192004_2 = some (r1, r2, r3, r4, r5, r6)) ∧ Aside0 (kq ≤ kj3) ∧ Aside0 (Kd.R (Kd.int .i64) 3 w' w.heap.size (fun k_ => some k_ ≠ (u192004 : Value).ownBlock) u192000 x192000_3) ∧ Aside0 (Kd.R (Kd.int .i64) 3 w' w.heap.size (fun k_ => some k_ ≠ (u192000 : Value).ownBlock) u192004 x192004_2) ∧ Aside0 (w'.heap[gb187]? = some (.cells #[(.slice none 0 0), .int .i64 0, .int .i64 0, .int .i64 0, (.slice none 0 0)] 36 (0, 0))) ∧ Aside0 (w'.heap[gb191]? = some (.cells #[u192000, .int .i64 t203, .int .i64 t207, .int .i64 t211, u192004] 36 (0, 0))) ∧ Aside0 (IsS86 w w' gb190 x191000_2 x191001_2 x191002_2) ∧ Aside0 (Below w.heap.size w w'))
   case atStart => exact ⟨(0), (t216), (t217), (t218), (([] : List Int)), (.slice none 0 0), t6_, H', ⟨Nat.le_refl _⟩, ⟨by (with_reducible repeat (first | apply Kd.R_alloc | apply Kd.R_drewN | apply Kd.R_drew)); exact Kd.R_mono HO_192000.out (fun _ hk => (by simp [Value.ownBlock]))⟩, ⟨by first | exact Kd.R_nil _ _ _ _ _ | exact Kd.N_nil _ _ _ _ _ | exact Kd.V_nil _ _ _ _ _ | exact Kd.Q_nil _ _ _ _ _ | exact Kd.S_nil _ _ _ _ _⟩, ⟨zN BK187⟩, ⟨zN BK191⟩, ⟨t4_⟩, ⟨t2_⟩⟩
   case round =>
    clear H'
    try clear c1
    try clear p2
    try clear c3
    try clear c6
    try clear p6
    try clear c7
    try clear c9
    try clear c10
    try clear c13
    try clear c13b0
    try clear c14
    try clear c16
    try clear c16b0
    try clear c18
    try clear c31
    try clear c32
    try clear hcz11_0
    try clear hcz11_1
    try clear hcz11_2
    try clear hcz11_3
    try clear hcz11_4
    try clear hcz15_0
    try clear hcz15_1
    try clear hcz15_2
    try clear hcz19_0
    try clear hcz19_1
    try clear hcz19_2
    try clear hcz25_0
    try clear hcz25_1
    try clear hcz25_2
    try clear hcz33_0
    try clear hcz33_1
    try clear hcz33_2
    try clear hcz33_3
    try clear hcz33_4
    try clear hcz35_0
    try clear hcz35_1
    try clear hcz35_2
    try clear hcz35_3
    try clear hcz35_4
    try clear hcz37_0
    try clear hcz37_1
    try clear hcz37_2
    try clear hcz37_3
    try clear hcz37_4
    try clear hfz11_0
    try clear hfz11_1
    try clear hfz11_2
    try clear hfz11_3
    try clear hfz11_4
    try clear hfz15_0
    try clear hfz15_1
    try clear hfz15_2
    try clear hfz19_0
    try clear hfz19_1
    try clear hfz19_2
    try clear hfz25_0
    try clear hfz25_1
    try clear hfz25_2
    try clear hfz33_0
    try clear hfz33_1
    try clear hfz33_2
    try clear hfz33_3
    try clear hfz33_4
    try clear hfz35_0
    try clear hfz35_1
    try clear hfz35_2
    try clear hfz35_3
    try clear hfz35_4
    try clear hfz37_0
    try clear hfz37_1
    try clear hfz37_2
    try clear hfz37_3
    try clear hfz37_4
    try clear p2
    try clear p6
    obtain ⟨x10_2, x191000_2, x191001_2, x191002_2, x192004_2, u192004, rfl, HA, HK2, HO_192000, HO_192004, BK187, BK191, HI190, HB⟩ := hrel
    cases gk with
    | zero => exact absurd HA.out (by simp [spec_ReadManifest.l1])
    | succ k2 =>
     have H := HA.out; clear HA; simp only [spec_ReadManifest.l1] at H; by_cases c39 : x10_2 < t215
     · rw [if_pos c39] at H; have c39b0 : decide (x10_2 < t215) = true := decide_eq_true c39; clear c39; by_cases c40 : x191002_2 = true
       · subst c40; have H1 : ((spec_ManifestText.f k2 x192000_3 t203 t207 t211 x192004_2).bind fun bt219 => (some (([] : List Int), 0, 0, 0, ([] : List Int), false))) = some (r1, r2, r3, r4, r5, r6) := by rw [if_pos rfl] at H; exact H
         clear H; have H := H1; clear H1; replace H := Option.bind_eq_some_iff.mp H; obtain ⟨⟨t219, t220⟩, A410, H⟩ := H; replace H : (some (([] : List Int), 0, 0, 0, ([] : List Int), false)) = some (r1, r2, r3, r4, r5, r6) := H; have A41 := Aside0.mk A410; clear A410; simp only [Option.some.injEq, Prod.mk.injEq] at H; obtain ⟨rfl, rfl, rfl, rfl, rfl, rfl⟩ := H; obtain ⟨HGz42, hgz42⟩ := HI190.out; have hcz42_0 := cellS86_0 HGz42; have hcz42_1 := cellS86_1 HGz42; have hcz42_2 := cellS86_2 HGz42; have hfz42_0 := blk_frozen HGz42 0; have hfz42_1 := blk_frozen HGz42 1; have hfz42_2 := blk_frozen HGz42 2; clear HGz42 hgz42; have hnb43 := NB191_187.out; have hnc43 := NB187_191.out; have hnb44 := NB191_190.out; have hnc44 := NB190_191.out; have hcz45_0 := bc0 BK191; have hcz45_1 := bc1 BK191; have hcz45_2 := bc2 BK191; have hcz45_3 := bc3 BK191; have hcz45_4 := bc4 BK191; have hfz45_0 := bf BK191 0; have hfz45_1 := bf BK191 1; have hfz45_2 := bf BK191 2; have hfz45_3 := bf BK191 3; have hfz45_4 := bf BK191 4; obtain ⟨Ao46, co46, eo46⟩ := Kd.R_slice HO_192000.out; subst eo46; obtain ⟨Ao47, co47, eo47⟩ := Kd.R_slice HO_192004.out; subst eo47
         go_wp2_with (first | ((with_reducible refine gate_callee (f := 17) rfl ?_); refine goesL_ (some 85) rfl rfl Try.func17 (by kernel_rfl) rfl #[.agg #[.slice Ao46 x192000_3.length co46, .int .i64 t203, .int .i64 t207, .int .i64 t211, .slice Ao47 x192004_2.length co47]] rfl t1_ ?_; (with_reducible refine (spec_ManifestText.calls k2 _ _ x192000_3 t203 t207 t211 _ _ x192004_2 t219 t220 _ ?side1 ?side2 ?side3 ?side4 A41.out).mono ?_); (case side1 => repeat (first | exact (Kd.R_reads' HO_192000.out).2.2 | (with_reducible refine Kd.C_alloc ?_ _) | (with_reducible refine Kd.C_drewN ?_ _) | (with_reducible refine Kd.C_drew ?_))); (case side2 => exact (Kd.R_reads' HO_192000.out).2.1); (case side3 => repeat (first | exact (Kd.R_reads' HO_192004.out).2.2 | (with_reducible refine Kd.C_alloc ?_ _) | (with_reducible refine Kd.C_drewN ?_ _) | (with_reducible refine Kd.C_drew ?_))); (case side4 => exact (Kd.R_reads' HO_192004.out).2.1); rintro e w48 ⟨rfl, hb⟩; refine ⟨_, rfl, ?_⟩; replace HO_192000 := Aside0.mk (Kd.R_below t15_ hb); replace HO_192004 := Aside0.mk (Kd.R_below t19_ hb); replace BK187 := bkN BK187 hb; replace BK191 := bkN BK191 hb; replace HB := bS t2_ hb; replace HI190 := Aside0.mk (IsS86.below t4_ hb); (try clear hb); obtain ⟨HGz49, hgz49⟩ := HI190.out; have hcz49_0 := cellS86_0 HGz49; have hcz49_1 := cellS86_1 HGz49; have hcz49_2 := cellS86_2 HGz49; have hfz49_0 := blk_frozen HGz49 0; have hfz49_1 := blk_frozen HGz49 1; have hfz49_2 := blk_frozen HGz49 2; clear HGz49 hgz49; have hnb50 := NB187_190.out; have hnc50 := NB190_187.out; have hcz51_0 := bc0 BK187; have hcz51_1 := bc1 BK187; have hcz51_2 := bc2 BK187; have hcz51_3 := bc3 BK187; have hcz51_4 := bc4 BK187; have hfz51_0 := bf BK187 0; have hfz51_1 := bf BK187 1; have hfz51_2 := bf BK187 2; have hfz51_3 := bf BK187 3; have hfz51_4 := bf BK187 4))
         refine bodyPost_ret (results_ct rfl _ _ gb187 36 #[.slice none 0 0, .int .i64 0, .int .i64 0, .int .i64 0, .slice none 0 0] (0, 0) _ rfl (by (with_reducible repeat (first | refine blk_drewN ?_ _ | refine blk_drew ?_ | refine blk_alloc ?_ _)); refine blk_put (cs := #[.slice none 0 0, .int .i64 0, .int .i64 0, .int .i64 0, .slice none 0 0]) ?_ 4 _ rfl; (with_reducible repeat (first | refine blk_drewN ?_ _ | refine blk_drew ?_ | refine blk_alloc ?_ _)); refine blk_put (cs := #[.slice none 0 0, .int .i64 0, .int .i64 0, .int .i64 0, .slice none 0 0]) ?_ 3 _ rfl; (with_reducible repeat (first | refine blk_drewN ?_ _ | refine blk_drew ?_ | refine blk_alloc ?_ _)); refine blk_put (cs := #[.slice none 0 0, .int .i64 0, .int .i64 0, .int .i64 0, .slice none 0 0]) ?_ 2 _ rfl; (with_reducible repeat (first | refine blk_drewN ?_ _ | refine blk_drew ?_ | refine blk_alloc ?_ _)); refine blk_put (cs := #[.slice none 0 0, .int .i64 0, .int .i64 0, .int .i64 0, .slice none 0 0]) ?_ 1 _ rfl; (with_reducible repeat (first | refine blk_drewN ?_ _ | refine blk_drew ?_ | refine blk_alloc ?_ _)); refine blk_put (cs := #[.slice none 0 0, .int .i64 0, .int .i64 0, .int .i64 0, .slice none 0 0]) ?_ 0 _ rfl; (with_reducible repeat (first | refine blk_drewN ?_ _ | refine blk_drew ?_ | refine blk_alloc ?_ _)); exact BK187.out) Try.underlying36 rfl (by kernel_rfl)) rfl ?_
         exact ⟨_, _, by first | rfl | (simp [errW_none, errW_some] <;> rfl) | (simp [*, errW_none, errW_some] <;> rfl), by first | exact Kd.R_nil _ _ _ _ _ | exact Kd.N_nil _ _ _ _ _ | exact Kd.V_nil _ _ _ _ _ | exact Kd.Q_nil _ _ _ _ _ | exact Kd.S_nil _ _ _ _ _, by first | exact Kd.R_nil _ _ _ _ _ | exact Kd.N_nil _ _ _ _ _ | exact Kd.V_nil _ _ _ _ _ | exact Kd.Q_nil _ _ _ _ _ | exact Kd.S_nil _ _ _ _ _, t2_⟩
       · replace c40 := Bool.eq_false_iff.mpr c40; subst c40; have H1 : (if x10_2 ≤ 4 then ((spec_l05Var.f k2 x191000_2 x191001_2 false).bind fun bt221 => (if x192004_2.length < 17592186044416 then (spec_ReadManifest.l1 k2 a0 t215 (wrap64 (x10_2 + 1)) bt221.2.1 bt221.2.2.1 bt221.2.2.2 x192000_3 t203 t207 t211 (x192004_2 ++ [bt221.1])) else (none))) else ((spec_ManifestText.f k2 x192000_3 t203 t207 t211 x192004_2).bind fun bt228 => (if bt228.2 = true then (if bt228.1.toList = a0.toList then (some (x192000_3, t203, t207, t211, x192004_2, true)) else (some (([] : List Int), 0, 0, 0, ([] : List Int), false))) else (some (([] : List Int), 0, 0, 0, ([] : List Int), false))))) = some (r1, r2, r3, r4, r5, r6) := by rw [if_neg (show ¬ (false = true) by decide)] at H; exact H
         clear H; have H := H1; clear H1; by_cases c52 : x10_2 ≤ 4
         · rw [if_pos c52] at H; have c52b0 : decide (x10_2 ≤ 4) = true := decide_eq_true c52; clear c52; replace H := Option.bind_eq_some_iff.mp H; obtain ⟨⟨t221, t222, t223, t224⟩, A530, H⟩ := H; replace H : (if x192004_2.length < 17592186044416 then (spec_ReadManifest.l1 k2 a0 t215 (wrap64 (x10_2 + 1)) t222 t223 t224 x192000_3 t203 t207 t211 (x192004_2 ++ [t221])) else (none)) = some (r1, r2, r3, r4, r5, r6) := H; have A53 := Aside0.mk A530; clear A530; by_cases c54 : x192004_2.length < 17592186044416
           · rw [if_pos c54] at H; have LMc54 := Aside0.mk c54; clear c54; obtain ⟨y225, hy225⟩ : ∃ y_ : List Int, y_ = (x192004_2 ++ [t221]) := ⟨_, rfl⟩; replace H : (spec_ReadManifest.l1 k2 a0 t215 (wrap64 (x10_2 + 1)) t222 t223 t224 x192000_3 t203 t207 t211 y225) = some (r1, r2, r3, r4, r5, r6) := by first | (rw [hy225]; with_reducible exact H) | (have H2_ := (Option.bind_some _ _).symm.trans H; rw [hy225]; with_reducible exact H2_) | (have H2_ := (Option.bind_some _ _).symm.trans H; with_reducible exact H2_) | with_reducible exact H | (rw [hy225]; exact H) | exact H
             have Ny225 := Aside0.mk hy225; clear hy225; have H' := Aside0.mk H; clear H; obtain ⟨HGz55, hgz55⟩ := HI190.out; have hcz55_0 := cellS86_0 HGz55; have hcz55_1 := cellS86_1 HGz55; have hcz55_2 := cellS86_2 HGz55; have hfz55_0 := blk_frozen HGz55 0; have hfz55_1 := blk_frozen HGz55 1; have hfz55_2 := blk_frozen HGz55 2; clear HGz55 hgz55
             try go_wp2
             replace HO_192000 := Aside0.mk (Kd.R_drew HO_192000.out); replace HO_192004 := Aside0.mk (Kd.R_drew HO_192004.out); replace BK187 := Aside0.mk (blk_drew BK187.out); replace BK191 := Aside0.mk (blk_drew BK191.out); replace HI190 := Aside0.mk (IsS86.drew HI190.out); replace HB := Aside0.mk (below_drew1 HB.out); refine start_ (n := 8) (S := fun w' => w'.cell? ⟨gb191, 0, none⟩ = some (u192000) ∧ w'.cell? ⟨gb191, 1, none⟩ = some (.int .i64 t203) ∧ w'.cell? ⟨gb191, 2, none⟩ = some (.int .i64 t207) ∧ w'.cell? ⟨gb191, 3, none⟩ = some (.int .i64 t211) ∧ w'.cell? ⟨gb191, 4, none⟩ = some (u192004)) (ds := [7]) #[false, false, false, false, false, false, false, false] (by kernel_rfl) rfl rfl ⟨bc0 BK191, bc1 BK191, bc2 BK191, bc3 BK191, bc4 BK191⟩ (fun hHeld => ?_); refine with_tabW spec_ReadManifest.tab16 spec_ReadManifest.bits16 (fun HT_ HW_ => ?_)
             generalize wr.drew = w56 at HO_192000 HO_192004 BK187 BK191 HI190 HB hHeld ⊢; refine pure_ (i := 0) (N := some 76) (v := ?_) (a' := ?_) #[true, false, false, false, false, false, false, false] rfl rfl (any_of HT_.out (by kernel_rfl)) (fun _ _ _ h => h) (Or.inl ⟨by rfl, ?_⟩) ?_ ?_
             rotate_left
             · intro w'; go_simp; with_reducible rfl
             rotate_left
             · simp only [Act.put, ps1, ps2, ps3, i64_w, i32_w]; rfl
             refine pure_ (i := 2) (N := some 78) (v := ?_) (a' := ?_) #[true, false, true, false, false, false, false, false] rfl rfl (any_of HT_.out (by kernel_rfl)) (fun _ _ _ h => h) (Or.inl ⟨by rfl, ?_⟩) ?_ ?_
             rotate_left
             · intro w'; go_simp; with_reducible rfl
             rotate_left
             · simp only [Act.put, ps1, ps2, ps3, i64_w, i32_w]; rfl
             refine take_ (i := 1) (N := some 77) (v := ?_) (a' := ?_) #[true, true, true, false, false, false, false, false] rfl rfl (take_ofW HT_.out HW_.out (by kernel_rfl)) (fun _ _ _ h => h) (Or.inl ⟨by rfl, ?_⟩) hHeld ?_ ?_
             rotate_left
             · rintro w' ⟨s0, s1, s2, s3, s4⟩; go_simp; with_reducible rfl
             rotate_left
             · simp only [Act.put, ps1, ps2, ps3, i64_w, i32_w]; rfl
             refine one_ (i := 3) (N := some 79) #[true, true, true, true, false, false, false, false] rfl rfl (one_of HT_.out (by kernel_rfl)) (by decide) (fun K hK => ?_)
             refine goes_ Try.func70 (by kernel_rfl) rfl #[.pointer (some ⟨gb190, 0, none⟩)] (by rfl) rfl rfl t1_ ?_
             with_reducible refine (spec_l05Var.calls k2 gb190 x191000_2 x191001_2 false t221 t222 t223 t224 w _ ?side1 ?side2 A53.out).mono ?_
             (case side1 => repeat (first | (with_reducible first | exact HI190.out | apply IsS86.alloc | apply IsS86.drewN | apply IsS86.drew | apply IsS86.set_0 | apply IsS86.set_1 | apply IsS86.set_2 | refine IsS86.far ?_ NB190_187.out _ | refine IsS86.far ?_ NB190_191.out _) | exact HI190.out))
             (case side2 => repeat (first | (with_reducible first | exact HB.out | apply below_alloc | apply pw_below_drewN | apply below_drew1 | refine below_set ?_ (IsS86.ge HI190.out) | refine below_set ?_ GE187.out | refine below_set ?_ GE191.out) | exact HB.out))
             rintro e w57 ⟨rfl, hi, hb, hk⟩; refine ⟨_, rfl, ?_⟩
             replace HO_192000 := Aside0.mk (Kd.R_mono (Kd.R_keep (IsS86.apart (show IsS86 w _ gb190 x191000_2 x191001_2 false from by repeat (first | (with_reducible first | exact HI190.out | apply IsS86.alloc | apply IsS86.drewN | apply IsS86.drew | apply IsS86.set_0 | apply IsS86.set_1 | apply IsS86.set_2 | refine IsS86.far ?_ NB190_187.out _ | refine IsS86.far ?_ NB190_191.out _) | exact HI190.out)) t15_ (by decide)) hk (fun _ h => h.2)) (fun _ h => h.1)); replace HO_192004 := Aside0.mk (Kd.R_mono (Kd.R_keep (IsS86.apart (show IsS86 w _ gb190 x191000_2 x191001_2 false from by repeat (first | (with_reducible first | exact HI190.out | apply IsS86.alloc | apply IsS86.drewN | apply IsS86.drew | apply IsS86.set_0 | apply IsS86.set_1 | apply IsS86.set_2 | refine IsS86.far ?_ NB190_187.out _ | refine IsS86.far ?_ NB190_191.out _) | exact HI190.out)) t19_ (by decide)) hk (fun _ h => h.2)) (fun _ h => h.1)); replace BK187 := Aside0.mk (KeepBut.blk hk (g' := gb187) (o := .cells #[.slice none 0 0, .int .i64 0, .int .i64 0, .int .i64 0, .slice none 0 0] 36 (0, 0)) t27_ NB187_190.out (by simp)); replace BK191 := Aside0.mk (KeepBut.blk hk (g' := gb191) (o := .cells #[u192000, .int .i64 t203, .int .i64 t207, .int .i64 t211, u192004] 36 (0, 0)) t28_ NB191_190.out (by simp)); replace HB := Aside0.mk (hb); replace HI190 := Aside0.mk (hi)
             (try clear hb)
             (try clear hb2)
             (try clear hk)
             (try clear hi)
             refine hK.out _ _ ⟨bc0 BK191, bc1 BK191, bc2 BK191, bc3 BK191, bc4 BK191⟩ (fun hHeld => ?_)
             clear hK K; refine norm_ (a' := ?_) ?_ ?_
             rotate_left
             · show Act.put _ (some 79) _ = _
               simp only [Act.put, ps1, ps2, ps3, i64_w, i32_w]; rfl
             refine one_ (i := 4) (N := some 80) #[true, true, true, true, true, false, false, false] rfl rfl (one_of HT_.out (by kernel_rfl)) (by decide) (fun K hK => ?_)
             refine value_ (w1 := ?_) (v := ?_) (by rfl) rfl ?_ ?_
             rotate_left 2
             · go_simp
               constructor
               · rfl
               · rfl
             refine hK.out _ _ ⟨(blk_cell (blk_alloc BK191.out _) 0).trans rfl, (blk_cell (blk_alloc BK191.out _) 1).trans rfl, (blk_cell (blk_alloc BK191.out _) 2).trans rfl, (blk_cell (blk_alloc BK191.out _) 3).trans rfl, (blk_cell (blk_alloc BK191.out _) 4).trans rfl⟩ (fun hHeld => ?_)
             clear hK K; refine norm_ (a' := ?_) ?_ ?_
             rotate_left
             · show Act.put _ (some 80) _ = _
               simp only [Act.put, ps1, ps2, ps3, i64_w, i32_w]; rfl
             refine one_ (i := 5) (N := some 81) #[true, true, true, true, true, true, false, false] rfl rfl (one_of HT_.out (by kernel_rfl)) (by decide) (fun K hK => ?_)
             refine Kd.R_append_step (Kd.int .i64) (w0 := w) w.heap.size (by rfl) (.tmp 77) (.tmp 80) 25 3 (.int .i64 0) 8 rfl Try.underlying25 info3 rfl (by decide) (by omega) u192004 x192004_2 t221 [.int .i64 t221] (fun k_ => some k_ ≠ (u192000 : Value).ownBlock) (fun _ => False) rfl rfl ?aP (fun _ hk => hk.elim) ?aF ?aO ?aB ?aS ?aL ?_
             (case aP => exact rfl)
             (case aB => exact t2_)
             (case aF => exact (fun k_ hk => Kd.fresh' (Kd.R_lt t15_) k_ hk))
             (case aO => exact t19_)
             (case aS => exact (below_size t2_))
             (case aL => have := LMc54.out; omega)
             intro v226 w58 ho hb hg hat; rw [← Ny225.out] at ho; have n0_ := Aside0.mk (Kd.R_after (ok := (fun _ => True)) (by (with_reducible repeat (first | apply Kd.R_alloc | apply Kd.R_drewN | apply Kd.R_drew)); exact Kd.R_mono HO_192000.out (fun _ hk => ⟨trivial, hk⟩)) hg hat); have n1_ := Aside0.mk (blk_grown (g := gb187) (o := .cells #[.slice none 0 0, .int .i64 0, .int .i64 0, .int .i64 0, .slice none 0 0] 36 (0, 0)) t27_ hg (Kd.R_ne HO_192004.out BK187.out (by decide))); have n2_ := Aside0.mk (blk_grown (g := gb191) (o := .cells #[u192000, .int .i64 t203, .int .i64 t207, .int .i64 t211, u192004] 36 (0, 0)) t28_ hg (Kd.R_ne HO_192004.out BK191.out (by decide))); have n3_ := Aside0.mk (IsS86.grown t4_ hg (IsS86.own_ne HI190.out HO_192004.out (by decide))); have n4_ := Aside0.mk (hb); have n5_ := Aside0.mk (ho); clear HO_192000; clear BK187; clear BK191; clear HI190; clear HB; clear HO_192004; have HO_192000 := n0_; have BK187 := n1_; have BK191 := n2_; have HI190 := n3_; have HB := n4_; have HO227 := n5_; clear n0_ n1_ n2_ n3_ n4_ n5_; clear ho hb hg hat; obtain ⟨Ao59, co59, eo59⟩ := Kd.R_slice HO227.out
             (first | subst eo59 | (injection eo59 with f1_ f2_ f3_; have f4_ := f1_.symm; have f5_ := f3_.symm; clear f1_ f2_ f3_; subst f4_; subst f5_))
             refine hK.out _ _ ⟨bc0 BK191, bc1 BK191, bc2 BK191, bc3 BK191, bc4 BK191⟩ (fun hHeld => ?_)
             clear hK K; refine norm_ (a' := ?_) ?_ ?_
             rotate_left
             · show Act.put _ (some 81) _ = _
               simp only [Act.put, ps1, ps2, ps3, i64_w, i32_w]; rfl
             refine pure_ (i := 6) (N := some 82) (v := ?_) (a' := ?_) #[true, true, true, true, true, true, true, false] rfl rfl (any_of HT_.out (by kernel_rfl)) (fun _ _ _ h => h) (Or.inl ⟨by rfl, ?_⟩) ?_ ?_
             rotate_left
             · intro w'; go_simp; with_reducible rfl
             rotate_left
             · simp only [Act.put, ps1, ps2, ps3, i64_w, i32_w]; rfl
             refine last_ (i := 7) (N := none) #[true, true, true, true, true, true, true, true] rfl rfl (one_of HT_.out (by kernel_rfl)) (by decide) (fun K hK => ?_)
             have hs60 : w58.cell? ⟨gb191, 4, none⟩ = some (u192004) := bc4 BK191; have hfs60 := bf BK191 4; have hns60_0 := NB187_191.out; have hms60_0 := NB191_187.out; refine skip_ (w1 := ?_) (by rfl) rfl ?_ ?_
             rotate_left
             · go_simp; rfl
             refine hK.out _ _ ?_
             clear hK K; refine done_ (done_of HT_.out (by kernel_rfl)) ?_
             try go_wp2
             go_roundg k2
             case measure => have := HJ3.out; have := HK2.out; omega
             case rel => exact ⟨(wrap64 (x10_2 + 1)), (t222), (t223), (t224), (y225), (.slice Ao59 y225.length co59), t6_, H', ⟨by have := HJ3.out; have := HK2.out; omega⟩, ⟨by (with_reducible repeat (first | apply Kd.R_alloc | apply Kd.R_drewN | apply Kd.R_drew)); exact Kd.R_mono (Kd.R_far (p := ⟨gb191, 4, none⟩) (Kd.R_types HO_192000.out BK191.out (by decide)) (fun _ hk => hk.2) (.slice Ao59 y225.length co59)) (fun _ hk => hk.1.2)⟩, ⟨by (with_reducible repeat (first | apply Kd.R_alloc | apply Kd.R_drewN | apply Kd.R_drew)); exact Kd.R_mono (Kd.R_far (p := ⟨gb191, 4, none⟩) (Kd.R_types HO227.out BK191.out (by decide)) (fun _ hk => hk.2) (.slice Ao59 y225.length co59)) (fun _ hk => hk.1)⟩, ⟨zF1 BK187 NB187_191⟩, ⟨zP BK191⟩, ⟨t4_⟩, ⟨t2_⟩⟩
           · rw [if_neg c54] at H; exact absurd H (by simp)
         · rw [if_neg c52] at H; have c52b0 : decide (x10_2 ≤ 4) = false := decide_eq_false c52; clear c52; replace H := Option.bind_eq_some_iff.mp H; obtain ⟨⟨t228, t229⟩, A610, H⟩ := H; replace H : (if t229 = true then (if t228.toList = a0.toList then (some (x192000_3, t203, t207, t211, x192004_2, true)) else (some (([] : List Int), 0, 0, 0, ([] : List Int), false))) else (some (([] : List Int), 0, 0, 0, ([] : List Int), false))) = some (r1, r2, r3, r4, r5, r6) := H; have A61 := Aside0.mk A610; clear A610; by_cases c62 : t229 = true
           · subst c62; have H1 : (if t228.toList = a0.toList then (some (x192000_3, t203, t207, t211, x192004_2, true)) else (some (([] : List Int), 0, 0, 0, ([] : List Int), false))) = some (r1, r2, r3, r4, r5, r6) := by rw [if_pos rfl] at H; exact H
             clear H; have H := H1; clear H1; by_cases c63 : t228.toList = a0.toList
             · rw [if_pos c63] at H; have c63b0 : (t228.toList == a0.toList) = true := beq_iff_eq.mpr c63; have c63b1 : (t228.toList != a0.toList) = false := bne_eq_false_iff_eq.mpr c63; clear c63; simp only [Option.some.injEq, Prod.mk.injEq] at H; obtain ⟨rfl, rfl, rfl, rfl, rfl, rfl⟩ := H; obtain ⟨HGz64, hgz64⟩ := HI190.out; have hcz64_0 := cellS86_0 HGz64; have hcz64_1 := cellS86_1 HGz64; have hcz64_2 := cellS86_2 HGz64; have hfz64_0 := blk_frozen HGz64 0; have hfz64_1 := blk_frozen HGz64 1; have hfz64_2 := blk_frozen HGz64 2; clear HGz64 hgz64; have hnb65 := NB191_187.out; have hnc65 := NB187_191.out; have hnb66 := NB191_190.out; have hnc66 := NB190_191.out; have hcz67_0 := bc0 BK191; have hcz67_1 := bc1 BK191; have hcz67_2 := bc2 BK191; have hcz67_3 := bc3 BK191; have hcz67_4 := bc4 BK191; have hfz67_0 := bf BK191 0; have hfz67_1 := bf BK191 1; have hfz67_2 := bf BK191 2; have hfz67_3 := bf BK191 3; have hfz67_4 := bf BK191 4; obtain ⟨Ao68, co68, eo68⟩ := Kd.R_slice HO_192000.out; subst eo68; obtain ⟨Ao69, co69, eo69⟩ := Kd.R_slice HO_192004.out; subst eo69
               go_wp2_with (first | ((with_reducible refine gate_callee (f := 17) rfl ?_); refine goesL_ (some 85) rfl rfl Try.func17 (by kernel_rfl) rfl #[.agg #[.slice Ao68 x192000_3.length co68, .int .i64 t203, .int .i64 t207, .int .i64 t211, .slice Ao69 x192004_2.length co69]] rfl t1_ ?_; (with_reducible refine (spec_ManifestText.calls k2 _ _ x192000_3 t203 t207 t211 _ _ x192004_2 t228 true _ ?side1 ?side2 ?side3 ?side4 A61.out).mono ?_); (case side1 => repeat (first | exact (Kd.R_reads' HO_192000.out).2.2 | (with_reducible refine Kd.C_alloc ?_ _) | (with_reducible refine Kd.C_drewN ?_ _) | (with_reducible refine Kd.C_drew ?_))); (case side2 => exact (Kd.R_reads' HO_192000.out).2.1); (case side3 => repeat (first | exact (Kd.R_reads' HO_192004.out).2.2 | (with_reducible refine Kd.C_alloc ?_ _) | (with_reducible refine Kd.C_drewN ?_ _) | (with_reducible refine Kd.C_drew ?_))); (case side4 => exact (Kd.R_reads' HO_192004.out).2.1); rintro e w70 ⟨rfl, hb⟩; refine ⟨_, rfl, ?_⟩; replace HO_192000 := Aside0.mk (Kd.R_below t15_ hb); replace HO_192004 := Aside0.mk (Kd.R_below t19_ hb); replace BK187 := bkN BK187 hb; replace BK191 := bkN BK191 hb; replace HB := bS t2_ hb; replace HI190 := Aside0.mk (IsS86.below t4_ hb); (try clear hb); obtain ⟨HGz71, hgz71⟩ := HI190.out; have hcz71_0 := cellS86_0 HGz71; have hcz71_1 := cellS86_1 HGz71; have hcz71_2 := cellS86_2 HGz71; have hfz71_0 := blk_frozen HGz71 0; have hfz71_1 := blk_frozen HGz71 1; have hfz71_2 := blk_frozen HGz71 2; clear HGz71 hgz71; have hcz72_0 := bc0 BK191; have hcz72_1 := bc1 BK191; have hcz72_2 := bc2 BK191; have hcz72_3 := bc3 BK191; have hcz72_4 := bc4 BK191; have hfz72_0 := bf BK191 0; have hfz72_1 := bf BK191 1; have hfz72_2 := bf BK191 2; have hfz72_3 := bf BK191 3; have hfz72_4 := bf BK191 4; have hnb73 := NB187_190.out; have hnc73 := NB190_187.out; have hcz74_0 := bc0 BK187; have hcz74_1 := bc1 BK187; have hcz74_2 := bc2 BK187; have hcz74_3 := bc3 BK187; have hcz74_4 := bc4 BK187; have hfz74_0 := bf BK187 0; have hfz74_1 := bf BK187 1; have hfz74_2 := bf BK187 2; have hfz74_3 := bf BK187 3; have hfz74_4 := bf BK187 4))
               refine bodyPost_ret (results_ct rfl _ _ gb187 36 #[.slice Ao68 x192000_3.length co68, .int .i64 t203, .int .i64 t207, .int .i64 t211, .slice Ao69 x192004_2.length co69] (0, 0) _ rfl (by (with_reducible repeat (first | refine blk_drewN ?_ _ | refine blk_drew ?_ | refine blk_alloc ?_ _)); refine blk_put (cs := #[.slice Ao68 x192000_3.length co68, .int .i64 t203, .int .i64 t207, .int .i64 t211, .slice none 0 0]) ?_ 4 _ rfl; (with_reducible repeat (first | refine blk_drewN ?_ _ | refine blk_drew ?_ | refine blk_alloc ?_ _)); refine blk_put (cs := #[.slice Ao68 x192000_3.length co68, .int .i64 t203, .int .i64 t207, .int .i64 0, .slice none 0 0]) ?_ 3 _ rfl; (with_reducible repeat (first | refine blk_drewN ?_ _ | refine blk_drew ?_ | refine blk_alloc ?_ _)); refine blk_put (cs := #[.slice Ao68 x192000_3.length co68, .int .i64 t203, .int .i64 0, .int .i64 0, .slice none 0 0]) ?_ 2 _ rfl; (with_reducible repeat (first | refine blk_drewN ?_ _ | refine blk_drew ?_ | refine blk_alloc ?_ _)); refine blk_put (cs := #[.slice Ao68 x192000_3.length co68, .int .i64 0, .int .i64 0, .int .i64 0, .slice none 0 0]) ?_ 1 _ rfl; (with_reducible repeat (first | refine blk_drewN ?_ _ | refine blk_drew ?_ | refine blk_alloc ?_ _)); refine blk_put (cs := #[.slice none 0 0, .int .i64 0, .int .i64 0, .int .i64 0, .slice none 0 0]) ?_ 0 _ rfl; (with_reducible repeat (first | refine blk_drewN ?_ _ | refine blk_drew ?_ | refine blk_alloc ?_ _)); exact BK187.out) Try.underlying36 rfl (by kernel_rfl)) rfl ?_
               exact ⟨_, _, by first | rfl | (simp [errW_none, errW_some] <;> rfl) | (simp [*, errW_none, errW_some] <;> rfl), by (with_reducible repeat (first | apply Kd.R_alloc | apply Kd.R_drewN | apply Kd.R_drew)); exact Kd.R_mono (Kd.R_far (p := ⟨gb187, 4, none⟩) (Kd.R_far (p := ⟨gb187, 3, none⟩) (Kd.R_far (p := ⟨gb187, 2, none⟩) (Kd.R_far (p := ⟨gb187, 1, none⟩) (Kd.R_far (p := ⟨gb187, 0, none⟩) (Kd.R_types HO_192000.out BK187.out (by decide)) (fun _ hk => hk.2) (.slice Ao68 x192000_3.length co68)) (fun _ hk => hk.2) (.int .i64 t203)) (fun _ hk => hk.2) (.int .i64 t207)) (fun _ hk => hk.2) (.int .i64 t211)) (fun _ hk => hk.2) (.slice Ao69 x192004_2.length co69)) (fun _ hk => hk.1), by (with_reducible repeat (first | apply Kd.R_alloc | apply Kd.R_drewN | apply Kd.R_drew)); exact Kd.R_mono (Kd.R_far (p := ⟨gb187, 4, none⟩) (Kd.R_far (p := ⟨gb187, 3, none⟩) (Kd.R_far (p := ⟨gb187, 2, none⟩) (Kd.R_far (p := ⟨gb187, 1, none⟩) (Kd.R_far (p := ⟨gb187, 0, none⟩) (Kd.R_types HO_192004.out BK187.out (by decide)) (fun _ hk => hk.2) (.slice Ao68 x192000_3.length co68)) (fun _ hk => hk.2) (.int .i64 t203)) (fun _ hk => hk.2) (.int .i64 t207)) (fun _ hk => hk.2) (.int .i64 t211)) (fun _ hk => hk.2) (.slice Ao69 x192004_2.length co69)) (fun _ hk => hk.1), t2_⟩
             · rw [if_neg c63] at H; have c63b0 : (t228.toList == a0.toList) = false := beq_eq_false_iff_ne.mpr c63; have c63b1 : (t228.toList != a0.toList) = true := bne_iff_ne.mpr c63; simp only [Option.some.injEq, Prod.mk.injEq] at H; obtain ⟨rfl, rfl, rfl, rfl, rfl, rfl⟩ := H; obtain ⟨HGz75, hgz75⟩ := HI190.out; have hcz75_0 := cellS86_0 HGz75; have hcz75_1 := cellS86_1 HGz75; have hcz75_2 := cellS86_2 HGz75; have hfz75_0 := blk_frozen HGz75 0; have hfz75_1 := blk_frozen HGz75 1; have hfz75_2 := blk_frozen HGz75 2; clear HGz75 hgz75; have hnb76 := NB191_187.out; have hnc76 := NB187_191.out; have hnb77 := NB191_190.out; have hnc77 := NB190_191.out; have hcz78_0 := bc0 BK191; have hcz78_1 := bc1 BK191; have hcz78_2 := bc2 BK191; have hcz78_3 := bc3 BK191; have hcz78_4 := bc4 BK191; have hfz78_0 := bf BK191 0; have hfz78_1 := bf BK191 1; have hfz78_2 := bf BK191 2; have hfz78_3 := bf BK191 3; have hfz78_4 := bf BK191 4; obtain ⟨Ao79, co79, eo79⟩ := Kd.R_slice HO_192000.out; subst eo79; obtain ⟨Ao80, co80, eo80⟩ := Kd.R_slice HO_192004.out; subst eo80
               go_wp2_with (first | ((with_reducible refine gate_callee (f := 17) rfl ?_); refine goesL_ (some 85) rfl rfl Try.func17 (by kernel_rfl) rfl #[.agg #[.slice Ao79 x192000_3.length co79, .int .i64 t203, .int .i64 t207, .int .i64 t211, .slice Ao80 x192004_2.length co80]] rfl t1_ ?_; (with_reducible refine (spec_ManifestText.calls k2 _ _ x192000_3 t203 t207 t211 _ _ x192004_2 t228 true _ ?side1 ?side2 ?side3 ?side4 A61.out).mono ?_); (case side1 => repeat (first | exact (Kd.R_reads' HO_192000.out).2.2 | (with_reducible refine Kd.C_alloc ?_ _) | (with_reducible refine Kd.C_drewN ?_ _) | (with_reducible refine Kd.C_drew ?_))); (case side2 => exact (Kd.R_reads' HO_192000.out).2.1); (case side3 => repeat (first | exact (Kd.R_reads' HO_192004.out).2.2 | (with_reducible refine Kd.C_alloc ?_ _) | (with_reducible refine Kd.C_drewN ?_ _) | (with_reducible refine Kd.C_drew ?_))); (case side4 => exact (Kd.R_reads' HO_192004.out).2.1); rintro e w81 ⟨rfl, hb⟩; refine ⟨_, rfl, ?_⟩; replace HO_192000 := Aside0.mk (Kd.R_below t15_ hb); replace HO_192004 := Aside0.mk (Kd.R_below t19_ hb); replace BK187 := bkN BK187 hb; replace BK191 := bkN BK191 hb; replace HB := bS t2_ hb; replace HI190 := Aside0.mk (IsS86.below t4_ hb); (try clear hb); obtain ⟨HGz82, hgz82⟩ := HI190.out; have hcz82_0 := cellS86_0 HGz82; have hcz82_1 := cellS86_1 HGz82; have hcz82_2 := cellS86_2 HGz82; have hfz82_0 := blk_frozen HGz82 0; have hfz82_1 := blk_frozen HGz82 1; have hfz82_2 := blk_frozen HGz82 2; clear HGz82 hgz82; have hnb83 := NB187_190.out; have hnc83 := NB190_187.out; have hcz84_0 := bc0 BK187; have hcz84_1 := bc1 BK187; have hcz84_2 := bc2 BK187; have hcz84_3 := bc3 BK187; have hcz84_4 := bc4 BK187; have hfz84_0 := bf BK187 0; have hfz84_1 := bf BK187 1; have hfz84_2 := bf BK187 2; have hfz84_3 := bf BK187 3; have hfz84_4 := bf BK187 4))
               refine bodyPost_ret (results_ct rfl _ _ gb187 36 #[.slice none 0 0, .int .i64 0, .int .i64 0, .int .i64 0, .slice none 0 0] (0, 0) _ rfl (by (with_reducible repeat (first | refine blk_drewN ?_ _ | refine blk_drew ?_ | refine blk_alloc ?_ _)); refine blk_put (cs := #[.slice none 0 0, .int .i64 0, .int .i64 0, .int .i64 0, .slice none 0 0]) ?_ 4 _ rfl; (with_reducible repeat (first | refine blk_drewN ?_ _ | refine blk_drew ?_ | refine blk_alloc ?_ _)); refine blk_put (cs := #[.slice none 0 0, .int .i64 0, .int .i64 0, .int .i64 0, .slice none 0 0]) ?_ 3 _ rfl; (with_reducible repeat (first | refine blk_drewN ?_ _ | refine blk_drew ?_ | refine blk_alloc ?_ _)); refine blk_put (cs := #[.slice none 0 0, .int .i64 0, .int .i64 0, .int .i64 0, .slice none 0 0]) ?_ 2 _ rfl; (with_reducible repeat (first | refine blk_drewN ?_ _ | refine blk_drew ?_ | refine blk_alloc ?_ _)); refine blk_put (cs := #[.slice none 0 0, .int .i64 0, .int .i64 0, .int .i64 0, .slice none 0 0]) ?_ 1 _ rfl; (with_reducible repeat (first | refine blk_drewN ?_ _ | refine blk_drew ?_ | refine blk_alloc ?_ _)); refine blk_put (cs := #[.slice none 0 0, .int .i64 0, .int .i64 0, .int .i64 0, .slice none 0 0]) ?_ 0 _ rfl; (with_reducible repeat (first | refine blk_drewN ?_ _ | refine blk_drew ?_ | refine blk_alloc ?_ _)); exact BK187.out) Try.underlying36 rfl (by kernel_rfl)) rfl ?_
               exact ⟨_, _, by first | rfl | (simp [errW_none, errW_some] <;> rfl) | (simp [*, errW_none, errW_some] <;> rfl), by first | exact Kd.R_nil _ _ _ _ _ | exact Kd.N_nil _ _ _ _ _ | exact Kd.V_nil _ _ _ _ _ | exact Kd.Q_nil _ _ _ _ _ | exact Kd.S_nil _ _ _ _ _, by first | exact Kd.R_nil _ _ _ _ _ | exact Kd.N_nil _ _ _ _ _ | exact Kd.V_nil _ _ _ _ _ | exact Kd.Q_nil _ _ _ _ _ | exact Kd.S_nil _ _ _ _ _, t2_⟩
           · replace c62 := Bool.eq_false_iff.mpr c62; subst c62; have H1 : (some (([] : List Int), 0, 0, 0, ([] : List Int), false)) = some (r1, r2, r3, r4, r5, r6) := by rw [if_neg (show ¬ (false = true) by decide)] at H; exact H
             clear H; have H := H1; clear H1; simp only [Option.some.injEq, Prod.mk.injEq] at H; obtain ⟨rfl, rfl, rfl, rfl, rfl, rfl⟩ := H; obtain ⟨HGz85, hgz85⟩ := HI190.out; have hcz85_0 := cellS86_0 HGz85; have hcz85_1 := cellS86_1 HGz85; have hcz85_2 := cellS86_2 HGz85; have hfz85_0 := blk_frozen HGz85 0; have hfz85_1 := blk_frozen HGz85 1; have hfz85_2 := blk_frozen HGz85 2; clear HGz85 hgz85; have hnb86 := NB191_187.out; have hnc86 := NB187_191.out; have hnb87 := NB191_190.out; have hnc87 := NB190_191.out; have hcz88_0 := bc0 BK191; have hcz88_1 := bc1 BK191; have hcz88_2 := bc2 BK191; have hcz88_3 := bc3 BK191; have hcz88_4 := bc4 BK191; have hfz88_0 := bf BK191 0; have hfz88_1 := bf BK191 1; have hfz88_2 := bf BK191 2; have hfz88_3 := bf BK191 3; have hfz88_4 := bf BK191 4; obtain ⟨Ao89, co89, eo89⟩ := Kd.R_slice HO_192000.out; subst eo89; obtain ⟨Ao90, co90, eo90⟩ := Kd.R_slice HO_192004.out; subst eo90
             go_wp2_with (first | ((with_reducible refine gate_callee (f := 17) rfl ?_); refine goesL_ (some 85) rfl rfl Try.func17 (by kernel_rfl) rfl #[.agg #[.slice Ao89 x192000_3.length co89, .int .i64 t203, .int .i64 t207, .int .i64 t211, .slice Ao90 x192004_2.length co90]] rfl t1_ ?_; (with_reducible refine (spec_ManifestText.calls k2 _ _ x192000_3 t203 t207 t211 _ _ x192004_2 t228 false _ ?side1 ?side2 ?side3 ?side4 A61.out).mono ?_); (case side1 => repeat (first | exact (Kd.R_reads' HO_192000.out).2.2 | (with_reducible refine Kd.C_alloc ?_ _) | (with_reducible refine Kd.C_drewN ?_ _) | (with_reducible refine Kd.C_drew ?_))); (case side2 => exact (Kd.R_reads' HO_192000.out).2.1); (case side3 => repeat (first | exact (Kd.R_reads' HO_192004.out).2.2 | (with_reducible refine Kd.C_alloc ?_ _) | (with_reducible refine Kd.C_drewN ?_ _) | (with_reducible refine Kd.C_drew ?_))); (case side4 => exact (Kd.R_reads' HO_192004.out).2.1); rintro e w91 ⟨rfl, hb⟩; refine ⟨_, rfl, ?_⟩; replace HO_192000 := Aside0.mk (Kd.R_below t15_ hb); replace HO_192004 := Aside0.mk (Kd.R_below t19_ hb); replace BK187 := bkN BK187 hb; replace BK191 := bkN BK191 hb; replace HB := bS t2_ hb; replace HI190 := Aside0.mk (IsS86.below t4_ hb); (try clear hb); obtain ⟨HGz92, hgz92⟩ := HI190.out; have hcz92_0 := cellS86_0 HGz92; have hcz92_1 := cellS86_1 HGz92; have hcz92_2 := cellS86_2 HGz92; have hfz92_0 := blk_frozen HGz92 0; have hfz92_1 := blk_frozen HGz92 1; have hfz92_2 := blk_frozen HGz92 2; clear HGz92 hgz92; have hnb93 := NB187_190.out; have hnc93 := NB190_187.out; have hcz94_0 := bc0 BK187; have hcz94_1 := bc1 BK187; have hcz94_2 := bc2 BK187; have hcz94_3 := bc3 BK187; have hcz94_4 := bc4 BK187; have hfz94_0 := bf BK187 0; have hfz94_1 := bf BK187 1; have hfz94_2 := bf BK187 2; have hfz94_3 := bf BK187 3; have hfz94_4 := bf BK187 4))
             refine bodyPost_ret (results_ct rfl _ _ gb187 36 #[.slice none 0 0, .int .i64 0, .int .i64 0, .int .i64 0, .slice none 0 0] (0, 0) _ rfl (by (with_reducible repeat (first | refine blk_drewN ?_ _ | refine blk_drew ?_ | refine blk_alloc ?_ _)); refine blk_put (cs := #[.slice none 0 0, .int .i64 0, .int .i64 0, .int .i64 0, .slice none 0 0]) ?_ 4 _ rfl; (with_reducible repeat (first | refine blk_drewN ?_ _ | refine blk_drew ?_ | refine blk_alloc ?_ _)); refine blk_put (cs := #[.slice none 0 0, .int .i64 0, .int .i64 0, .int .i64 0, .slice none 0 0]) ?_ 3 _ rfl; (with_reducible repeat (first | refine blk_drewN ?_ _ | refine blk_drew ?_ | refine blk_alloc ?_ _)); refine blk_put (cs := #[.slice none 0 0, .int .i64 0, .int .i64 0, .int .i64 0, .slice none 0 0]) ?_ 2 _ rfl; (with_reducible repeat (first | refine blk_drewN ?_ _ | refine blk_drew ?_ | refine blk_alloc ?_ _)); refine blk_put (cs := #[.slice none 0 0, .int .i64 0, .int .i64 0, .int .i64 0, .slice none 0 0]) ?_ 1 _ rfl; (with_reducible repeat (first | refine blk_drewN ?_ _ | refine blk_drew ?_ | refine blk_alloc ?_ _)); refine blk_put (cs := #[.slice none 0 0, .int .i64 0, .int .i64 0, .int .i64 0, .slice none 0 0]) ?_ 0 _ rfl; (with_reducible repeat (first | refine blk_drewN ?_ _ | refine blk_drew ?_ | refine blk_alloc ?_ _)); exact BK187.out) Try.underlying36 rfl (by kernel_rfl)) rfl ?_
             exact ⟨_, _, by first | rfl | (simp [errW_none, errW_some] <;> rfl) | (simp [*, errW_none, errW_some] <;> rfl), by first | exact Kd.R_nil _ _ _ _ _ | exact Kd.N_nil _ _ _ _ _ | exact Kd.V_nil _ _ _ _ _ | exact Kd.Q_nil _ _ _ _ _ | exact Kd.S_nil _ _ _ _ _, by first | exact Kd.R_nil _ _ _ _ _ | exact Kd.N_nil _ _ _ _ _ | exact Kd.V_nil _ _ _ _ _ | exact Kd.Q_nil _ _ _ _ _ | exact Kd.S_nil _ _ _ _ _, t2_⟩
     · rw [if_neg c39] at H; have c39b0 : decide (x10_2 < t215) = false := decide_eq_false c39; clear c39; replace H := Option.bind_eq_some_iff.mp H; obtain ⟨⟨t230, t231⟩, A950, H⟩ := H; replace H : (if x191002_2 = true then (some (([] : List Int), 0, 0, 0, ([] : List Int), false)) else (if t231 = true then (if t230.toList = a0.toList then (some (x192000_3, t203, t207, t211, x192004_2, true)) else (some (([] : List Int), 0, 0, 0, ([] : List Int), false))) else (some (([] : List Int), 0, 0, 0, ([] : List Int), false)))) = some (r1, r2, r3, r4, r5, r6) := H; have A95 := Aside0.mk A950; clear A950; by_cases c96 : x191002_2 = true
       · subst c96; have H1 : (some (([] : List Int), 0, 0, 0, ([] : List Int), false)) = some (r1, r2, r3, r4, r5, r6) := by rw [if_pos rfl] at H; exact H
         clear H; have H := H1; clear H1; simp only [Option.some.injEq, Prod.mk.injEq] at H; obtain ⟨rfl, rfl, rfl, rfl, rfl, rfl⟩ := H; have hnb97 := NB191_187.out; have hnc97 := NB187_191.out; have hnb98 := NB191_190.out; have hnc98 := NB190_191.out; have hcz99_0 := bc0 BK191; have hcz99_1 := bc1 BK191; have hcz99_2 := bc2 BK191; have hcz99_3 := bc3 BK191; have hcz99_4 := bc4 BK191; have hfz99_0 := bf BK191 0; have hfz99_1 := bf BK191 1; have hfz99_2 := bf BK191 2; have hfz99_3 := bf BK191 3; have hfz99_4 := bf BK191 4; obtain ⟨Ao100, co100, eo100⟩ := Kd.R_slice HO_192000.out; subst eo100; obtain ⟨Ao101, co101, eo101⟩ := Kd.R_slice HO_192004.out; subst eo101
         go_wp2_with (first | ((with_reducible refine gate_callee (f := 17) rfl ?_); refine goesL_ (some 85) rfl rfl Try.func17 (by kernel_rfl) rfl #[.agg #[.slice Ao100 x192000_3.length co100, .int .i64 t203, .int .i64 t207, .int .i64 t211, .slice Ao101 x192004_2.length co101]] rfl t1_ ?_; (with_reducible refine (spec_ManifestText.calls k2 _ _ x192000_3 t203 t207 t211 _ _ x192004_2 t230 t231 _ ?side1 ?side2 ?side3 ?side4 A95.out).mono ?_); (case side1 => repeat (first | exact (Kd.R_reads' HO_192000.out).2.2 | (with_reducible refine Kd.C_alloc ?_ _) | (with_reducible refine Kd.C_drewN ?_ _) | (with_reducible refine Kd.C_drew ?_))); (case side2 => exact (Kd.R_reads' HO_192000.out).2.1); (case side3 => repeat (first | exact (Kd.R_reads' HO_192004.out).2.2 | (with_reducible refine Kd.C_alloc ?_ _) | (with_reducible refine Kd.C_drewN ?_ _) | (with_reducible refine Kd.C_drew ?_))); (case side4 => exact (Kd.R_reads' HO_192004.out).2.1); rintro e w102 ⟨rfl, hb⟩; refine ⟨_, rfl, ?_⟩; replace HO_192000 := Aside0.mk (Kd.R_below t15_ hb); replace HO_192004 := Aside0.mk (Kd.R_below t19_ hb); replace BK187 := bkN BK187 hb; replace BK191 := bkN BK191 hb; replace HB := bS t2_ hb; replace HI190 := Aside0.mk (IsS86.below t4_ hb); (try clear hb); obtain ⟨HGz103, hgz103⟩ := HI190.out; have hcz103_0 := cellS86_0 HGz103; have hcz103_1 := cellS86_1 HGz103; have hcz103_2 := cellS86_2 HGz103; have hfz103_0 := blk_frozen HGz103 0; have hfz103_1 := blk_frozen HGz103 1; have hfz103_2 := blk_frozen HGz103 2; clear HGz103 hgz103; have hnb104 := NB187_190.out; have hnc104 := NB190_187.out; have hcz105_0 := bc0 BK187; have hcz105_1 := bc1 BK187; have hcz105_2 := bc2 BK187; have hcz105_3 := bc3 BK187; have hcz105_4 := bc4 BK187; have hfz105_0 := bf BK187 0; have hfz105_1 := bf BK187 1; have hfz105_2 := bf BK187 2; have hfz105_3 := bf BK187 3; have hfz105_4 := bf BK187 4))
         refine bodyPost_ret (results_ct rfl _ _ gb187 36 #[.slice none 0 0, .int .i64 0, .int .i64 0, .int .i64 0, .slice none 0 0] (0, 0) _ rfl (by (with_reducible repeat (first | refine blk_drewN ?_ _ | refine blk_drew ?_ | refine blk_alloc ?_ _)); refine blk_put (cs := #[.slice none 0 0, .int .i64 0, .int .i64 0, .int .i64 0, .slice none 0 0]) ?_ 4 _ rfl; (with_reducible repeat (first | refine blk_drewN ?_ _ | refine blk_drew ?_ | refine blk_alloc ?_ _)); refine blk_put (cs := #[.slice none 0 0, .int .i64 0, .int .i64 0, .int .i64 0, .slice none 0 0]) ?_ 3 _ rfl; (with_reducible repeat (first | refine blk_drewN ?_ _ | refine blk_drew ?_ | refine blk_alloc ?_ _)); refine blk_put (cs := #[.slice none 0 0, .int .i64 0, .int .i64 0, .int .i64 0, .slice none 0 0]) ?_ 2 _ rfl; (with_reducible repeat (first | refine blk_drewN ?_ _ | refine blk_drew ?_ | refine blk_alloc ?_ _)); refine blk_put (cs := #[.slice none 0 0, .int .i64 0, .int .i64 0, .int .i64 0, .slice none 0 0]) ?_ 1 _ rfl; (with_reducible repeat (first | refine blk_drewN ?_ _ | refine blk_drew ?_ | refine blk_alloc ?_ _)); refine blk_put (cs := #[.slice none 0 0, .int .i64 0, .int .i64 0, .int .i64 0, .slice none 0 0]) ?_ 0 _ rfl; (with_reducible repeat (first | refine blk_drewN ?_ _ | refine blk_drew ?_ | refine blk_alloc ?_ _)); exact BK187.out) Try.underlying36 rfl (by kernel_rfl)) rfl ?_
         exact ⟨_, _, by first | rfl | (simp [errW_none, errW_some] <;> rfl) | (simp [*, errW_none, errW_some] <;> rfl), by first | exact Kd.R_nil _ _ _ _ _ | exact Kd.N_nil _ _ _ _ _ | exact Kd.V_nil _ _ _ _ _ | exact Kd.Q_nil _ _ _ _ _ | exact Kd.S_nil _ _ _ _ _, by first | exact Kd.R_nil _ _ _ _ _ | exact Kd.N_nil _ _ _ _ _ | exact Kd.V_nil _ _ _ _ _ | exact Kd.Q_nil _ _ _ _ _ | exact Kd.S_nil _ _ _ _ _, t2_⟩
       · replace c96 := Bool.eq_false_iff.mpr c96; subst c96; have H1 : (if t231 = true then (if t230.toList = a0.toList then (some (x192000_3, t203, t207, t211, x192004_2, true)) else (some (([] : List Int), 0, 0, 0, ([] : List Int), false))) else (some (([] : List Int), 0, 0, 0, ([] : List Int), false))) = some (r1, r2, r3, r4, r5, r6) := by rw [if_neg (show ¬ (false = true) by decide)] at H; exact H
         clear H; have H := H1; clear H1; by_cases c106 : t231 = true
         · subst c106; have H1 : (if t230.toList = a0.toList then (some (x192000_3, t203, t207, t211, x192004_2, true)) else (some (([] : List Int), 0, 0, 0, ([] : List Int), false))) = some (r1, r2, r3, r4, r5, r6) := by rw [if_pos rfl] at H; exact H
           clear H; have H := H1; clear H1; by_cases c107 : t230.toList = a0.toList
           · rw [if_pos c107] at H; have c107b0 : (t230.toList == a0.toList) = true := beq_iff_eq.mpr c107; have c107b1 : (t230.toList != a0.toList) = false := bne_eq_false_iff_eq.mpr c107; clear c107; simp only [Option.some.injEq, Prod.mk.injEq] at H; obtain ⟨rfl, rfl, rfl, rfl, rfl, rfl⟩ := H; have hnb108 := NB191_187.out; have hnc108 := NB187_191.out; have hnb109 := NB191_190.out; have hnc109 := NB190_191.out; have hcz110_0 := bc0 BK191; have hcz110_1 := bc1 BK191; have hcz110_2 := bc2 BK191; have hcz110_3 := bc3 BK191; have hcz110_4 := bc4 BK191; have hfz110_0 := bf BK191 0; have hfz110_1 := bf BK191 1; have hfz110_2 := bf BK191 2; have hfz110_3 := bf BK191 3; have hfz110_4 := bf BK191 4; obtain ⟨Ao111, co111, eo111⟩ := Kd.R_slice HO_192000.out; subst eo111; obtain ⟨Ao112, co112, eo112⟩ := Kd.R_slice HO_192004.out; subst eo112
             go_wp2_with (first | ((with_reducible refine gate_callee (f := 17) rfl ?_); refine goesL_ (some 85) rfl rfl Try.func17 (by kernel_rfl) rfl #[.agg #[.slice Ao111 x192000_3.length co111, .int .i64 t203, .int .i64 t207, .int .i64 t211, .slice Ao112 x192004_2.length co112]] rfl t1_ ?_; (with_reducible refine (spec_ManifestText.calls k2 _ _ x192000_3 t203 t207 t211 _ _ x192004_2 t230 true _ ?side1 ?side2 ?side3 ?side4 A95.out).mono ?_); (case side1 => repeat (first | exact (Kd.R_reads' HO_192000.out).2.2 | (with_reducible refine Kd.C_alloc ?_ _) | (with_reducible refine Kd.C_drewN ?_ _) | (with_reducible refine Kd.C_drew ?_))); (case side2 => exact (Kd.R_reads' HO_192000.out).2.1); (case side3 => repeat (first | exact (Kd.R_reads' HO_192004.out).2.2 | (with_reducible refine Kd.C_alloc ?_ _) | (with_reducible refine Kd.C_drewN ?_ _) | (with_reducible refine Kd.C_drew ?_))); (case side4 => exact (Kd.R_reads' HO_192004.out).2.1); rintro e w113 ⟨rfl, hb⟩; refine ⟨_, rfl, ?_⟩; replace HO_192000 := Aside0.mk (Kd.R_below t15_ hb); replace HO_192004 := Aside0.mk (Kd.R_below t19_ hb); replace BK187 := bkN BK187 hb; replace BK191 := bkN BK191 hb; replace HB := bS t2_ hb; replace HI190 := Aside0.mk (IsS86.below t4_ hb); (try clear hb); obtain ⟨HGz114, hgz114⟩ := HI190.out; have hcz114_0 := cellS86_0 HGz114; have hcz114_1 := cellS86_1 HGz114; have hcz114_2 := cellS86_2 HGz114; have hfz114_0 := blk_frozen HGz114 0; have hfz114_1 := blk_frozen HGz114 1; have hfz114_2 := blk_frozen HGz114 2; clear HGz114 hgz114; have hcz115_0 := bc0 BK191; have hcz115_1 := bc1 BK191; have hcz115_2 := bc2 BK191; have hcz115_3 := bc3 BK191; have hcz115_4 := bc4 BK191; have hfz115_0 := bf BK191 0; have hfz115_1 := bf BK191 1; have hfz115_2 := bf BK191 2; have hfz115_3 := bf BK191 3; have hfz115_4 := bf BK191 4; have hnb116 := NB187_190.out; have hnc116 := NB190_187.out; have hcz117_0 := bc0 BK187; have hcz117_1 := bc1 BK187; have hcz117_2 := bc2 BK187; have hcz117_3 := bc3 BK187; have hcz117_4 := bc4 BK187; have hfz117_0 := bf BK187 0; have hfz117_1 := bf BK187 1; have hfz117_2 := bf BK187 2; have hfz117_3 := bf BK187 3; have hfz117_4 := bf BK187 4))
             refine bodyPost_ret (results_ct rfl _ _ gb187 36 #[.slice Ao111 x192000_3.length co111, .int .i64 t203, .int .i64 t207, .int .i64 t211, .slice Ao112 x192004_2.length co112] (0, 0) _ rfl (by (with_reducible repeat (first | refine blk_drewN ?_ _ | refine blk_drew ?_ | refine blk_alloc ?_ _)); refine blk_put (cs := #[.slice Ao111 x192000_3.length co111, .int .i64 t203, .int .i64 t207, .int .i64 t211, .slice none 0 0]) ?_ 4 _ rfl; (with_reducible repeat (first | refine blk_drewN ?_ _ | refine blk_drew ?_ | refine blk_alloc ?_ _)); refine blk_put (cs := #[.slice Ao111 x192000_3.length co111, .int .i64 t203, .int .i64 t207, .int .i64 0, .slice none 0 0]) ?_ 3 _ rfl; (with_reducible repeat (first | refine blk_drewN ?_ _ | refine blk_drew ?_ | refine blk_alloc ?_ _)); refine blk_put (cs := #[.slice Ao111 x192000_3.length co111, .int .i64 t203, .int .i64 0, .int .i64 0, .slice none 0 0]) ?_ 2 _ rfl; (with_reducible repeat (first | refine blk_drewN ?_ _ | refine blk_drew ?_ | refine blk_alloc ?_ _)); refine blk_put (cs := #[.slice Ao111 x192000_3.length co111, .int .i64 0, .int .i64 0, .int .i64 0, .slice none 0 0]) ?_ 1 _ rfl; (with_reducible repeat (first | refine blk_drewN ?_ _ | refine blk_drew ?_ | refine blk_alloc ?_ _)); refine blk_put (cs := #[.slice none 0 0, .int .i64 0, .int .i64 0, .int .i64 0, .slice none 0 0]) ?_ 0 _ rfl; (with_reducible repeat (first | refine blk_drewN ?_ _ | refine blk_drew ?_ | refine blk_alloc ?_ _)); exact BK187.out) Try.underlying36 rfl (by kernel_rfl)) rfl ?_
             exact ⟨_, _, by first | rfl | (simp [errW_none, errW_some] <;> rfl) | (simp [*, errW_none, errW_some] <;> rfl), by (with_reducible repeat (first | apply Kd.R_alloc | apply Kd.R_drewN | apply Kd.R_drew)); exact Kd.R_mono (Kd.R_far (p := ⟨gb187, 4, none⟩) (Kd.R_far (p := ⟨gb187, 3, none⟩) (Kd.R_far (p := ⟨gb187, 2, none⟩) (Kd.R_far (p := ⟨gb187, 1, none⟩) (Kd.R_far (p := ⟨gb187, 0, none⟩) (Kd.R_types HO_192000.out BK187.out (by decide)) (fun _ hk => hk.2) (.slice Ao111 x192000_3.length co111)) (fun _ hk => hk.2) (.int .i64 t203)) (fun _ hk => hk.2) (.int .i64 t207)) (fun _ hk => hk.2) (.int .i64 t211)) (fun _ hk => hk.2) (.slice Ao112 x192004_2.length co112)) (fun _ hk => hk.1), by (with_reducible repeat (first | apply Kd.R_alloc | apply Kd.R_drewN | apply Kd.R_drew)); exact Kd.R_mono (Kd.R_far (p := ⟨gb187, 4, none⟩) (Kd.R_far (p := ⟨gb187, 3, none⟩) (Kd.R_far (p := ⟨gb187, 2, none⟩) (Kd.R_far (p := ⟨gb187, 1, none⟩) (Kd.R_far (p := ⟨gb187, 0, none⟩) (Kd.R_types HO_192004.out BK187.out (by decide)) (fun _ hk => hk.2) (.slice Ao111 x192000_3.length co111)) (fun _ hk => hk.2) (.int .i64 t203)) (fun _ hk => hk.2) (.int .i64 t207)) (fun _ hk => hk.2) (.int .i64 t211)) (fun _ hk => hk.2) (.slice Ao112 x192004_2.length co112)) (fun _ hk => hk.1), t2_⟩
           · rw [if_neg c107] at H; have c107b0 : (t230.toList == a0.toList) = false := beq_eq_false_iff_ne.mpr c107; have c107b1 : (t230.toList != a0.toList) = true := bne_iff_ne.mpr c107; simp only [Option.some.injEq, Prod.mk.injEq] at H; obtain ⟨rfl, rfl, rfl, rfl, rfl, rfl⟩ := H; have hnb118 := NB191_187.out; have hnc118 := NB187_191.out; have hnb119 := NB191_190.out; have hnc119 := NB190_191.out; have hcz120_0 := bc0 BK191; have hcz120_1 := bc1 BK191; have hcz120_2 := bc2 BK191; have hcz120_3 := bc3 BK191; have hcz120_4 := bc4 BK191; have hfz120_0 := bf BK191 0; have hfz120_1 := bf BK191 1; have hfz120_2 := bf BK191 2; have hfz120_3 := bf BK191 3; have hfz120_4 := bf BK191 4; obtain ⟨Ao121, co121, eo121⟩ := Kd.R_slice HO_192000.out; subst eo121; obtain ⟨Ao122, co122, eo122⟩ := Kd.R_slice HO_192004.out; subst eo122
             go_wp2_with (first | ((with_reducible refine gate_callee (f := 17) rfl ?_); refine goesL_ (some 85) rfl rfl Try.func17 (by kernel_rfl) rfl #[.agg #[.slice Ao121 x192000_3.length co121, .int .i64 t203, .int .i64 t207, .int .i64 t211, .slice Ao122 x192004_2.length co122]] rfl t1_ ?_; (with_reducible refine (spec_ManifestText.calls k2 _ _ x192000_3 t203 t207 t211 _ _ x192004_2 t230 true _ ?side1 ?side2 ?side3 ?side4 A95.out).mono ?_); (case side1 => repeat (first | exact (Kd.R_reads' HO_192000.out).2.2 | (with_reducible refine Kd.C_alloc ?_ _) | (with_reducible refine Kd.C_drewN ?_ _) | (with_reducible refine Kd.C_drew ?_))); (case side2 => exact (Kd.R_reads' HO_192000.out).2.1); (case side3 => repeat (first | exact (Kd.R_reads' HO_192004.out).2.2 | (with_reducible refine Kd.C_alloc ?_ _) | (with_reducible refine Kd.C_drewN ?_ _) | (with_reducible refine Kd.C_drew ?_))); (case side4 => exact (Kd.R_reads' HO_192004.out).2.1); rintro e w123 ⟨rfl, hb⟩; refine ⟨_, rfl, ?_⟩; replace HO_192000 := Aside0.mk (Kd.R_below t15_ hb); replace HO_192004 := Aside0.mk (Kd.R_below t19_ hb); replace BK187 := bkN BK187 hb; replace BK191 := bkN BK191 hb; replace HB := bS t2_ hb; replace HI190 := Aside0.mk (IsS86.below t4_ hb); (try clear hb); obtain ⟨HGz124, hgz124⟩ := HI190.out; have hcz124_0 := cellS86_0 HGz124; have hcz124_1 := cellS86_1 HGz124; have hcz124_2 := cellS86_2 HGz124; have hfz124_0 := blk_frozen HGz124 0; have hfz124_1 := blk_frozen HGz124 1; have hfz124_2 := blk_frozen HGz124 2; clear HGz124 hgz124; have hnb125 := NB187_190.out; have hnc125 := NB190_187.out; have hcz126_0 := bc0 BK187; have hcz126_1 := bc1 BK187; have hcz126_2 := bc2 BK187; have hcz126_3 := bc3 BK187; have hcz126_4 := bc4 BK187; have hfz126_0 := bf BK187 0; have hfz126_1 := bf BK187 1; have hfz126_2 := bf BK187 2; have hfz126_3 := bf BK187 3; have hfz126_4 := bf BK187 4))
             refine bodyPost_ret (results_ct rfl _ _ gb187 36 #[.slice none 0 0, .int .i64 0, .int .i64 0, .int .i64 0, .slice none 0 0] (0, 0) _ rfl (by (with_reducible repeat (first | refine blk_drewN ?_ _ | refine blk_drew ?_ | refine blk_alloc ?_ _)); refine blk_put (cs := #[.slice none 0 0, .int .i64 0, .int .i64 0, .int .i64 0, .slice none 0 0]) ?_ 4 _ rfl; (with_reducible repeat (first | refine blk_drewN ?_ _ | refine blk_drew ?_ | refine blk_alloc ?_ _)); refine blk_put (cs := #[.slice none 0 0, .int .i64 0, .int .i64 0, .int .i64 0, .slice none 0 0]) ?_ 3 _ rfl; (with_reducible repeat (first | refine blk_drewN ?_ _ | refine blk_drew ?_ | refine blk_alloc ?_ _)); refine blk_put (cs := #[.slice none 0 0, .int .i64 0, .int .i64 0, .int .i64 0, .slice none 0 0]) ?_ 2 _ rfl; (with_reducible repeat (first | refine blk_drewN ?_ _ | refine blk_drew ?_ | refine blk_alloc ?_ _)); refine blk_put (cs := #[.slice none 0 0, .int .i64 0, .int .i64 0, .int .i64 0, .slice none 0 0]) ?_ 1 _ rfl; (with_reducible repeat (first | refine blk_drewN ?_ _ | refine blk_drew ?_ | refine blk_alloc ?_ _)); refine blk_put (cs := #[.slice none 0 0, .int .i64 0, .int .i64 0, .int .i64 0, .slice none 0 0]) ?_ 0 _ rfl; (with_reducible repeat (first | refine blk_drewN ?_ _ | refine blk_drew ?_ | refine blk_alloc ?_ _)); exact BK187.out) Try.underlying36 rfl (by kernel_rfl)) rfl ?_
             exact ⟨_, _, by first | rfl | (simp [errW_none, errW_some] <;> rfl) | (simp [*, errW_none, errW_some] <;> rfl), by first | exact Kd.R_nil _ _ _ _ _ | exact Kd.N_nil _ _ _ _ _ | exact Kd.V_nil _ _ _ _ _ | exact Kd.Q_nil _ _ _ _ _ | exact Kd.S_nil _ _ _ _ _, by first | exact Kd.R_nil _ _ _ _ _ | exact Kd.N_nil _ _ _ _ _ | exact Kd.V_nil _ _ _ _ _ | exact Kd.Q_nil _ _ _ _ _ | exact Kd.S_nil _ _ _ _ _, t2_⟩
         · replace c106 := Bool.eq_false_iff.mpr c106; subst c106; have H1 : (some (([] : List Int), 0, 0, 0, ([] : List Int), false)) = some (r1, r2, r3, r4, r5, r6) := by rw [if_neg (show ¬ (false = true) by decide)] at H; exact H
           clear H; have H := H1; clear H1; simp only [Option.some.injEq, Prod.mk.injEq] at H; obtain ⟨rfl, rfl, rfl, rfl, rfl, rfl⟩ := H; have hnb127 := NB191_187.out; have hnc127 := NB187_191.out; have hnb128 := NB191_190.out; have hnc128 := NB190_191.out; have hcz129_0 := bc0 BK191; have hcz129_1 := bc1 BK191; have hcz129_2 := bc2 BK191; have hcz129_3 := bc3 BK191; have hcz129_4 := bc4 BK191; have hfz129_0 := bf BK191 0; have hfz129_1 := bf BK191 1; have hfz129_2 := bf BK191 2; have hfz129_3 := bf BK191 3; have hfz129_4 := bf BK191 4; obtain ⟨Ao130, co130, eo130⟩ := Kd.R_slice HO_192000.out; subst eo130; obtain ⟨Ao131, co131, eo131⟩ := Kd.R_slice HO_192004.out; subst eo131
           go_wp2_with (first | ((with_reducible refine gate_callee (f := 17) rfl ?_); refine goesL_ (some 85) rfl rfl Try.func17 (by kernel_rfl) rfl #[.agg #[.slice Ao130 x192000_3.length co130, .int .i64 t203, .int .i64 t207, .int .i64 t211, .slice Ao131 x192004_2.length co131]] rfl t1_ ?_; (with_reducible refine (spec_ManifestText.calls k2 _ _ x192000_3 t203 t207 t211 _ _ x192004_2 t230 false _ ?side1 ?side2 ?side3 ?side4 A95.out).mono ?_); (case side1 => repeat (first | exact (Kd.R_reads' HO_192000.out).2.2 | (with_reducible refine Kd.C_alloc ?_ _) | (with_reducible refine Kd.C_drewN ?_ _) | (with_reducible refine Kd.C_drew ?_))); (case side2 => exact (Kd.R_reads' HO_192000.out).2.1); (case side3 => repeat (first | exact (Kd.R_reads' HO_192004.out).2.2 | (with_reducible refine Kd.C_alloc ?_ _) | (with_reducible refine Kd.C_drewN ?_ _) | (with_reducible refine Kd.C_drew ?_))); (case side4 => exact (Kd.R_reads' HO_192004.out).2.1); rintro e w132 ⟨rfl, hb⟩; refine ⟨_, rfl, ?_⟩; replace HO_192000 := Aside0.mk (Kd.R_below t15_ hb); replace HO_192004 := Aside0.mk (Kd.R_below t19_ hb); replace BK187 := bkN BK187 hb; replace BK191 := bkN BK191 hb; replace HB := bS t2_ hb; replace HI190 := Aside0.mk (IsS86.below t4_ hb); (try clear hb); obtain ⟨HGz133, hgz133⟩ := HI190.out; have hcz133_0 := cellS86_0 HGz133; have hcz133_1 := cellS86_1 HGz133; have hcz133_2 := cellS86_2 HGz133; have hfz133_0 := blk_frozen HGz133 0; have hfz133_1 := blk_frozen HGz133 1; have hfz133_2 := blk_frozen HGz133 2; clear HGz133 hgz133; have hnb134 := NB187_190.out; have hnc134 := NB190_187.out; have hcz135_0 := bc0 BK187; have hcz135_1 := bc1 BK187; have hcz135_2 := bc2 BK187; have hcz135_3 := bc3 BK187; have hcz135_4 := bc4 BK187; have hfz135_0 := bf BK187 0; have hfz135_1 := bf BK187 1; have hfz135_2 := bf BK187 2; have hfz135_3 := bf BK187 3; have hfz135_4 := bf BK187 4))
           refine bodyPost_ret (results_ct rfl _ _ gb187 36 #[.slice none 0 0, .int .i64 0, .int .i64 0, .int .i64 0, .slice none 0 0] (0, 0) _ rfl (by (with_reducible repeat (first | refine blk_drewN ?_ _ | refine blk_drew ?_ | refine blk_alloc ?_ _)); refine blk_put (cs := #[.slice none 0 0, .int .i64 0, .int .i64 0, .int .i64 0, .slice none 0 0]) ?_ 4 _ rfl; (with_reducible repeat (first | refine blk_drewN ?_ _ | refine blk_drew ?_ | refine blk_alloc ?_ _)); refine blk_put (cs := #[.slice none 0 0, .int .i64 0, .int .i64 0, .int .i64 0, .slice none 0 0]) ?_ 3 _ rfl; (with_reducible repeat (first | refine blk_drewN ?_ _ | refine blk_drew ?_ | refine blk_alloc ?_ _)); refine blk_put (cs := #[.slice none 0 0, .int .i64 0, .int .i64 0, .int .i64 0, .slice none 0 0]) ?_ 2 _ rfl; (with_reducible repeat (first | refine blk_drewN ?_ _ | refine blk_drew ?_ | refine blk_alloc ?_ _)); refine blk_put (cs := #[.slice none 0 0, .int .i64 0, .int .i64 0, .int .i64 0, .slice none 0 0]) ?_ 1 _ rfl; (with_reducible repeat (first | refine blk_drewN ?_ _ | refine blk_drew ?_ | refine blk_alloc ?_ _)); refine blk_put (cs := #[.slice none 0 0, .int .i64 0, .int .i64 0, .int .i64 0, .slice none 0 0]) ?_ 0 _ rfl; (with_reducible repeat (first | refine blk_drewN ?_ _ | refine blk_drew ?_ | refine blk_alloc ?_ _)); exact BK187.out) Try.underlying36 rfl (by kernel_rfl)) rfl ?_
           exact ⟨_, _, by first | rfl | (simp [errW_none, errW_some] <;> rfl) | (simp [*, errW_none, errW_some] <;> rfl), by first | exact Kd.R_nil _ _ _ _ _ | exact Kd.N_nil _ _ _ _ _ | exact Kd.V_nil _ _ _ _ _ | exact Kd.Q_nil _ _ _ _ _ | exact Kd.S_nil _ _ _ _ _, by first | exact Kd.R_nil _ _ _ _ _ | exact Kd.N_nil _ _ _ _ _ | exact Kd.V_nil _ _ _ _ _ | exact Kd.Q_nil _ _ _ _ _ | exact Kd.S_nil _ _ _ _ _, t2_⟩

end Go.Proofs.Ytpnncgfmihjlkaa.QFnExactReadManifest
