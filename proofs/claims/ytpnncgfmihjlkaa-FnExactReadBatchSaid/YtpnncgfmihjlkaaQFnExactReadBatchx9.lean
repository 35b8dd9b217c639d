-- By a program of this session, over the kit's print.
import Derived.Test.YtpnncgfmihjlkaaQFnExactReadBatchx0
import Derived.Test.YtpnncgfmihjlkaaQFnExactReadBatchx5
import Derived.Test.YtpnncgfmihjlkaaQFnExactReadBatchx8
namespace Go.Proofs.Ytpnncgfmihjlkaa.QFnExactReadBatch
open Go.RowKit Go.Proofs.YtpnncgfmihjlkaaW.PrintWords Go.Proofs.YtpnncgfmihjlkaaW.PrintLast Go.Proofs.YtpnncgfmihjlkaaW.PrintMore
attribute [local go_sem] max2_int min2_int max_two min_two max_three min_three max_four min_four   -- for this text's walks alone
set_option linter.unusedVariables false
set_option linter.unusedSimpArgs false

/-! ### spec_BatchText: function 75 -/
def spec_BatchText.l0 : Nat → ByteArray → Int → Int → List (S80) → Option (ByteArray × Bool)
 | 0, _, _, _, _ => none
 | k + 1, x4, x5, x181000, x181001 => if x5 < (x181001.length : Int) then (if 0 ≤ x5 then (if (rd_T80 x181001 x5).f2 = true then ((spec_l05Short.f k ((rd_T80 x181001 x5).f0)).bind fun t186 => (if x4.size + t186.size ≤ 9223372036854775807 then (if (x4 ++ t186).size + 1 ≤ 9223372036854775807 then ((spec_l05Short.f k ((rd_T80 x181001 x5).f1)).bind fun t188 => (if ((x4 ++ t186) ++ (⟨#[1]⟩ : ByteArray)).size + t188.size ≤ 9223372036854775807 then (spec_BatchText.l0 k (((x4 ++ t186) ++ (⟨#[1]⟩ : ByteArray)) ++ t188) (wrap64 (x5 + 1)) x181000 x181001) else (none))) else (none)) else (none))) else ((spec_l05Short.f k ((rd_T80 x181001 x5).f0)).bind fun t190 => (if x4.size + t190.size ≤ 9223372036854775807 then (if (x4 ++ t190).size + 1 ≤ 9223372036854775807 then ((spec_l05Short.f k ((rd_T80 x181001 x5).f1)).bind fun t192 => (if ((x4 ++ t190) ++ (⟨#[0]⟩ : ByteArray)).size + t192.size ≤ 9223372036854775807 then (spec_BatchText.l0 k (((x4 ++ t190) ++ (⟨#[0]⟩ : ByteArray)) ++ t192) (wrap64 (x5 + 1)) x181000 x181001) else (none))) else (none)) else (none)))) else (none)) else (some (x4, true))
def spec_BatchText.f (k : Nat) (a0_0 : Int) (l0_1 : List (S80)) : Option (ByteArray × Bool) := (spec_BatchOk.f k a0_0 l0_1).bind fun t181 => (if t181 = true then ((spec_l01Var.f k a0_0).bind fun t182 => ((spec_l01Var.f k (l0_1.length : Int)).bind fun t183 => (if t182.size + t183.size ≤ 9223372036854775807 then (spec_BatchText.l0 k (t182 ++ t183) 0 a0_0 l0_1) else (none)))) else (some ((⟨#[]⟩ : ByteArray), false)))
theorem spec_BatchText.mono_l : ∀ k, (∀ y0 y1 y2 y3, LeO (spec_BatchText.l0 k y0 y1 y2 y3) (spec_BatchText.l0 (k + 1) y0 y1 y2 y3))
 | 0 => fun _ _ _ _ r h => by simp [spec_BatchText.l0] at h
 | k + 1 => by
  have ih0 := spec_BatchText.mono_l k
  · intro y0 y1 y2 y3
    unfold spec_BatchText.l0
    repeat' first
    | (with_reducible exact ih0 _ _ _ _)
    | (with_reducible exact spec_BatchOk.mono _ _ _)
    | (with_reducible exact spec_l01Var.mono _ _)
    | (with_reducible exact spec_l05Short.mono _ _)
    | (with_reducible exact LeO.refl _)
    | (with_reducible exact LeO.none _)
    | (with_reducible refine LeO.ite ?_ ?_)
    | (with_reducible refine LeO.bind ?_ (fun _ => ?_))
    | exact ih0 _ _ _ _
    | exact spec_BatchOk.mono _ _ _
    | exact spec_l01Var.mono _ _
    | exact spec_l05Short.mono _ _
    | exact LeO.none _
    | refine LeO.ite ?_ ?_
    | refine LeO.bind ?_ (fun _ => ?_)
theorem spec_BatchText.mono : ∀ a0 a1 k, LeO (spec_BatchText.f k a0 a1) (spec_BatchText.f (k + 1) a0 a1) := by
 intro a0 a1 k; have ih0 := spec_BatchText.mono_l k
 unfold spec_BatchText.f
 repeat' first
  | (with_reducible exact ih0 _ _ _ _)
  | (with_reducible exact spec_BatchOk.mono _ _ _)
  | (with_reducible exact spec_l01Var.mono _ _)
  | (with_reducible exact spec_l05Short.mono _ _)
  | (with_reducible exact LeO.refl _)
  | (with_reducible exact LeO.none _)
  | (with_reducible refine LeO.ite ?_ ?_)
  | (with_reducible refine LeO.bind ?_ (fun _ => ?_))
  | exact ih0 _ _ _ _
  | exact spec_BatchOk.mono _ _ _
  | exact spec_l01Var.mono _ _
  | exact spec_l05Short.mono _ _
  | exact LeO.none _
  | refine LeO.ite ?_ ?_
  | refine LeO.bind ?_ (fun _ => ?_)
def spec_BatchText.T3 : Bool × List (List Nat × List Nat) := (true, [([], []), ([0], [0]), ([1], [1]), ([], []), ([3], [3]), ([4], [4]), ([5, 2], [5]), ([2, 6], [2, 6]), ([7, 6, 0, 1, 2, 3, 4, 5, 6, 7], [7])])
def spec_BatchText.B3 : List Nat := [0, 1, 3, 0, 8, 24, 63, 127, 255]
theorem spec_BatchText.tab3 : rtab .any (opsOf Try.f75 3) = spec_BatchText.T3 := by kernel_rfl
theorem spec_BatchText.bits3 : waitsOk spec_BatchText.T3.2 spec_BatchText.B3 = true := by kernel_rfl
def spec_BatchText.T10 : Bool × List (List Nat × List Nat) := (true, [([], []), ([], []), ([1], [1]), ([], []), ([2, 3], [2, 3]), ([4], [4]), ([5], [5]), ([6], [6]), ([0, 7], [0, 7]), ([], []), ([8, 9], [8, 9]), ([], []), ([11], [11]), ([], []), ([12, 13], [12, 13]), ([14], [14]), ([15], [15]), ([16, 7], [16]), ([10, 17], [10, 17]), ([18, 17, 0, 1, 2, 3, 4, 5, 6, 7, 8, 9, 10, 11, 12, 13, 14, 15, 16, 17, 18], [0, 18])])
def spec_BatchText.B10 : List Nat := [0, 0, 2, 0, 14, 30, 62, 126, 255, 0, 1023, 0, 2048, 0, 14336, 30720, 63488, 129278, 262143, 524287]
theorem spec_BatchText.tab10 : rtab .any (opsOf Try.f75 10) = spec_BatchText.T10 := by kernel_rfl
theorem spec_BatchText.bits10 : waitsOk spec_BatchText.T10.2 spec_BatchText.B10 = true := by kernel_rfl
set_option maxHeartbeats 8000000 in
set_option maxRecDepth 100000 in
theorem spec_BatchText.calls (k : Nat) (a0_0 : Int) (A0_1 : Option Addr) (c0_1 : Nat) (l0_1 : List (S80)) (r1 : ByteArray) (r2 : Bool) (w : World) (hr0_1 : Kd.C k80 w A0_1 l0_1.length l0_1) (hc0_1 : l0_1.length ≤ c0_1) (h : spec_BatchText.f k a0_0 l0_1 = some (r1, r2)) :
 Calls Try.prog 75 #[.agg #[.int .i64 a0_0, .slice A0_1 l0_1.length c0_1]] w fun e w' => e = .returned (.tuple #[.string r1, .bool r2]) ∧ Below w.heap.size w w' := by
 have hu46 := Try.underlying46; have HR0_1 := Aside0.mk hr0_1; have HC0_1 := Aside0.mk hc0_1; clear hr0_1 hc0_1; have HB := Aside0.mk (Below.refl w.heap.size w); have H : ((spec_BatchOk.f k a0_0 l0_1).bind fun t181 => (if t181 = true then ((spec_l01Var.f k a0_0).bind fun t182 => ((spec_l01Var.f k (l0_1.length : Int)).bind fun t183 => (if t182.size + t183.size ≤ 9223372036854775807 then (spec_BatchText.l0 k (t182 ++ t183) 0 a0_0 l0_1) else (none)))) else (some ((⟨#[]⟩ : ByteArray), false)))) = some (r1, r2) := h; clear h; replace H := Option.bind_eq_some_iff.mp H; obtain ⟨t181, A20, H⟩ := H; replace H : (if t181 = true then ((spec_l01Var.f k a0_0).bind fun t182 => ((spec_l01Var.f k (l0_1.length : Int)).bind fun t183 => (if t182.size + t183.size ≤ 9223372036854775807 then (spec_BatchText.l0 k (t182 ++ t183) 0 a0_0 l0_1) else (none)))) else (some ((⟨#[]⟩ : ByteArray), false))) = some (r1, r2) := H; have A2 := Aside0.mk A20; clear A20; by_cases c3 : t181 = true
 · subst c3; have H1 : ((spec_l01Var.f k a0_0).bind fun t182 => ((spec_l01Var.f k (l0_1.length : Int)).bind fun t183 => (if t182.size + t183.size ≤ 9223372036854775807 then (spec_BatchText.l0 k (t182 ++ t183) 0 a0_0 l0_1) else (none)))) = some (r1, r2) := by rw [if_pos rfl] at H; exact H
   clear H; have H := H1; clear H1; replace H := Option.bind_eq_some_iff.mp H; obtain ⟨t182, A40, H⟩ := H; replace H : ((spec_l01Var.f k (l0_1.length : Int)).bind fun t183 => (if t182.size + t183.size ≤ 9223372036854775807 then (spec_BatchText.l0 k (t182 ++ t183) 0 a0_0 l0_1) else (none))) = some (r1, r2) := H; have A4 := Aside0.mk A40; clear A40; replace H := Option.bind_eq_some_iff.mp H; obtain ⟨t183, A50, H⟩ := H; replace H : (if t182.size + t183.size ≤ 9223372036854775807 then (spec_BatchText.l0 k (t182 ++ t183) 0 a0_0 l0_1) else (none)) = some (r1, r2) := H; have A5 := Aside0.mk A50; clear A50; by_cases c6 : t182.size + t183.size ≤ 9223372036854775807
   · rw [if_pos c6] at H; have c6b0 := eq_true c6; have c6b1 : decide (t182.size + t183.size ≤ 9223372036854775807) = true := decide_eq_true c6
     try have c6b2 : (9223372036854775807 < t182.size + t183.size) = False := eq_false (Nat.not_lt.2 c6)
     have H' := Aside0.mk H; clear H; go_enter Try.func75, Try.ntmps75
     try go_wp2_with (first | ((with_reducible refine gate_dst (N := 1) rfl ?_); refine boxE (N := 1) (cs := #[.int .i64 a0_0, .slice A0_1 l0_1.length c0_1]) (t := 46) (h := ?_); intro gb180 hg w7 hbox hb; have BK180 := Aside0.mk (hbox); have GW180 := Aside0.mk ((t7_ : w.heap.size ≤ gb180)); have GE180 := GW180; replace HB := bS t0_ hb; clear hb hbox hg; obtain ⟨hcz8_0, hcz8_1, hfz8_0, hfz8_1⟩ := ba2 BK180) | ((with_reducible refine gate_callee (f := 28) rfl ?_); refine goesL_ (some 8) rfl rfl Try.func28 (by kernel_rfl) rfl #[.agg #[.int .i64 a0_0, .slice A0_1 l0_1.length c0_1]] rfl t5_ ?_; (with_reducible refine (spec_BatchOk.calls k a0_0 _ _ l0_1 true _ ?side1 ?side2 A2.out).mono ?_); (case side1 => exact cB HR0_1 HB); (case side2 => exact HC0_1.out); rintro e w9 ⟨rfl, hb⟩; refine ⟨_, rfl, ?_⟩; replace BK180 := bkN BK180 hb; replace HB := bS t14_ hb; (try clear hb)))
     replace BK180 := Aside0.mk (blk_drew BK180.out); replace HB := Aside0.mk (below_drew1 HB.out); refine start_ (n := 9) (S := fun w' => w'.cell? ⟨gb180, 0, none⟩ = some (.int .i64 a0_0) ∧ w'.cell? ⟨gb180, 1, none⟩ = some (.slice A0_1 l0_1.length c0_1)) (ds := []) #[false, false, false, false, false, false, false, false, false] (by kernel_rfl) rfl rfl ⟨bc0 BK180, bc1 BK180⟩ (fun hHeld => ?_); refine with_tabW spec_BatchText.tab3 spec_BatchText.bits3 (fun HT_ HW_ => ?_)
     generalize w9.drew = w10 at BK180 HB hHeld ⊢; refine pure_ (i := 0) (N := some 10) (v := ?_) (a' := ?_) #[true, false, false, false, false, false, false, false, false] rfl rfl (any_of HT_.out (by kernel_rfl)) (fun _ _ _ h => h) (Or.inl ⟨by rfl, ?_⟩) ?_ ?_
     rotate_left
     · intro w'; go_simp; with_reducible rfl
     rotate_left
     · simp only [Act.put, ps1, ps2, ps3, i64_w, i32_w]; rfl
     refine pure_ (i := 3) (N := some 13) (v := ?_) (a' := ?_) #[true, false, false, true, false, false, false, false, false] rfl rfl (any_of HT_.out (by kernel_rfl)) (fun _ _ _ h => h) (Or.inl ⟨by rfl, ?_⟩) ?_ ?_
     rotate_left
     · intro w'; go_simp; with_reducible rfl
     rotate_left
     · simp only [Act.put, ps1, ps2, ps3, i64_w, i32_w]; rfl
     refine take_ (i := 1) (N := some 11) (v := ?_) (a' := ?_) #[true, true, false, true, false, false, false, false, false] rfl rfl (take_ofW HT_.out HW_.out (by kernel_rfl)) (fun _ _ _ h => h) (Or.inl ⟨by rfl, ?_⟩) hHeld ?_ ?_
     rotate_left
     · rintro w' ⟨s0, s1⟩; go_simp; with_reducible rfl
     rotate_left
     · simp only [Act.put, ps1, ps2, ps3, i64_w, i32_w]; rfl
     refine take_ (i := 4) (N := some 14) (v := ?_) (a' := ?_) #[true, true, false, true, true, false, false, false, false] rfl rfl (take_ofW HT_.out HW_.out (by kernel_rfl)) (fun _ _ _ h => h) (Or.inl ⟨by rfl, ?_⟩) hHeld ?_ ?_
     rotate_left
     · rintro w' ⟨s0, s1⟩; go_simp; with_reducible rfl
     rotate_left
     · simp only [Act.put, ps1, ps2, ps3, i64_w, i32_w]; rfl
     refine pure_ (i := 5) (N := some 15) (v := ?_) (a' := ?_) #[true, true, false, true, true, true, false, false, false] rfl rfl (any_of HT_.out (by kernel_rfl)) (fun _ _ _ h => h) (Or.inl ⟨by rfl, ?_⟩) ?_ ?_
     rotate_left
     · intro w'; go_simp; with_reducible rfl
     rotate_left
     · simp only [Act.put, ps1, ps2, ps3, i64_w, i32_w]; rfl
     refine one_ (i := 2) (N := some 12) #[true, true, true, true, true, true, false, false, false] rfl rfl (one_of HT_.out (by kernel_rfl)) (by decide) (fun K hK => ?_)
     refine goes_ Try.func43 (by kernel_rfl) rfl #[.int .i64 a0_0] (by rfl) rfl rfl t5_ ?_
     with_reducible refine (spec_l01Var.calls k a0_0 t182 _ A4.out).mono ?_
     rintro e w11 ⟨rfl, hb⟩; refine ⟨_, rfl, ?_⟩
     replace BK180 := bkN BK180 hb; replace HB := bS t14_ hb
     (try clear hb)
     (try clear hb2)
     (try clear hk)
     (try clear hi)
     refine hK.out _ _ ⟨bc0 BK180, bc1 BK180⟩ (fun hHeld => ?_)
     clear hK K; refine norm_ (a' := ?_) ?_ ?_
     rotate_left
     · show Act.put _ (some 12) _ = _
       simp only [Act.put, ps1, ps2, ps3, i64_w, i32_w]; rfl
     refine one_ (i := 6) (N := some 16) #[true, true, true, true, true, true, true, false, false] rfl rfl (one_of HT_.out (by kernel_rfl)) (by decide) (fun K hK => ?_)
     refine goes_ Try.func43 (by kernel_rfl) rfl #[.int .i64 (l0_1.length : Int)] (by rfl) rfl rfl t5_ ?_
     with_reducible refine (spec_l01Var.calls k (l0_1.length : Int) t183 _ A5.out).mono ?_
     rintro e w12 ⟨rfl, hb⟩; refine ⟨_, rfl, ?_⟩
     replace BK180 := bkN BK180 hb; replace HB := bS t14_ hb
     (try clear hb)
     (try clear hb2)
     (try clear hk)
     (try clear hi)
     refine hK.out _ _ ⟨bc0 BK180, bc1 BK180⟩ (fun hHeld => ?_)
     clear hK K; refine norm_ (a' := ?_) ?_ ?_
     rotate_left
     · show Act.put _ (some 16) _ = _
       simp only [Act.put, ps1, ps2, ps3, i64_w, i32_w]; rfl
     refine pure_ (i := 7) (N := some 17) (v := ?_) (a' := ?_) #[true, true, true, true, true, true, true, true, false] rfl rfl (any_of HT_.out (by kernel_rfl)) (fun _ _ _ h => h) (Or.inl ⟨by rfl, ?_⟩) ?_ ?_
     rotate_left
     · intro w'; go_simp; with_reducible rfl
     rotate_left
     · simp only [Act.put, ps1, ps2, ps3, i64_w, i32_w]; rfl
     refine pure_ (i := 8) (N := some 4) (v := ?_) (a' := ?_) #[true, true, true, true, true, true, true, true, true] rfl rfl (any_of HT_.out (by kernel_rfl)) (fun _ _ _ h => h) (Or.inl ⟨by rfl, ?_⟩) ?_ ?_
     rotate_left
     · intro w'; go_simp; with_reducible rfl
     rotate_left
     · simp only [Act.put, ps1, ps2, ps3, i64_w, i32_w]; rfl
     refine done_ (done_of HT_.out (by kernel_rfl)) ?_
     try go_wp2
     go_loopg [4, 5] k (fun kq v4 v5 w' => ∃ (x4_1 : ByteArray) (x5_1 : Int), v4 = .string x4_1 ∧ v5 = .int .i64 x5_1 ∧ Aside0 (spec_BatchText.l0 kq x4_1 x5_1 a0_0 l0_1 = some (r1, r2)) ∧ Aside0 (kq ≤ k) ∧ Aside0 (w'.heap[gb180]? = some (.cells #[.int .i64 a0_0, (.slice A0_1 l0_1.length c0_1)] 46 (0, 0))) ∧ Aside0 (Below w.heap.size w w'))
     case atStart => exact ⟨(t182 ++ t183), (0), t10_, t10_, H', ⟨Nat.le_refl _⟩, ⟨zN BK180⟩, ⟨t14_⟩⟩
     case round =>
      clear H'
      try clear c2
      try clear p2
      try clear c3
      try clear c4
      try clear c6
      try clear c6b0
      try clear c6b1
      try clear c6b2
      try clear c7
      try clear hcz8_0
      try clear hcz8_1
      try clear hfz8_0
      try clear hfz8_1
      obtain ⟨x4_1, x5_1, rfl, rfl, HA, HK1, BK180, HB⟩ := hrel
      cases gk with
      | zero => exact absurd HA.out (by simp [spec_BatchText.l0])
      | succ k1 =>
       have H := HA.out; clear HA; simp only [spec_BatchText.l0] at H; by_cases c13 : x5_1 < (l0_1.length : Int)
       · rw [if_pos c13] at H; have c13b0 : decide (x5_1 < (l0_1.length : Int)) = true := decide_eq_true c13; clear c13; by_cases c14 : 0 ≤ x5_1
         · rw [if_pos c14] at H; have c14b0 : decide (0 ≤ x5_1) = true := decide_eq_true c14; clear c14; obtain ⟨bq15, hbq15⟩ : ∃ b_ : Bool, b_ = ((rd_T80 l0_1 x5_1).f2) := ⟨_, rfl⟩; replace H : (if bq15 = true then ((spec_l05Short.f k1 ((rd_T80 l0_1 x5_1).f0)).bind fun t186 => (if x4_1.size + t186.size ≤ 9223372036854775807 then (if (x4_1 ++ t186).size + 1 ≤ 9223372036854775807 then ((spec_l05Short.f k1 ((rd_T80 l0_1 x5_1).f1)).bind fun t188 => (if ((x4_1 ++ t186) ++ (⟨#[1]⟩ : ByteArray)).size + t188.size ≤ 9223372036854775807 then (spec_BatchText.l0 k1 (((x4_1 ++ t186) ++ (⟨#[1]⟩ : ByteArray)) ++ t188) (wrap64 (x5_1 + 1)) a0_0 l0_1) else (none))) else (none)) else (none))) else ((spec_l05Short.f k1 ((rd_T80 l0_1 x5_1).f0)).bind fun t190 => (if x4_1.size + t190.size ≤ 9223372036854775807 then (if (x4_1 ++ t190).size + 1 ≤ 9223372036854775807 then ((spec_l05Short.f k1 ((rd_T80 l0_1 x5_1).f1)).bind fun t192 => (if ((x4_1 ++ t190) ++ (⟨#[0]⟩ : ByteArray)).size + t192.size ≤ 9223372036854775807 then (spec_BatchText.l0 k1 (((x4_1 ++ t190) ++ (⟨#[0]⟩ : ByteArray)) ++ t192) (wrap64 (x5_1 + 1)) a0_0 l0_1) else (none))) else (none)) else (none)))) = some (r1, r2) := by rw [← hbq15] at H; exact H
           have Nbq15 := Aside0.mk hbq15; clear hbq15; by_cases c16 : bq15 = true
           · subst c16; have H1 : ((spec_l05Short.f k1 ((rd_T80 l0_1 x5_1).f0)).bind fun t186 => (if x4_1.size + t186.size ≤ 9223372036854775807 then (if (x4_1 ++ t186).size + 1 ≤ 9223372036854775807 then ((spec_l05Short.f k1 ((rd_T80 l0_1 x5_1).f1)).bind fun t188 => (if ((x4_1 ++ t186) ++ (⟨#[1]⟩ : ByteArray)).size + t188.size ≤ 9223372036854775807 then (spec_BatchText.l0 k1 (((x4_1 ++ t186) ++ (⟨#[1]⟩ : ByteArray)) ++ t188) (wrap64 (x5_1 + 1)) a0_0 l0_1) else (none))) else (none)) else (none))) = some (r1, r2) := by rw [if_pos rfl] at H; exact H
             clear H; have H := H1; clear H1; replace H := Option.bind_eq_some_iff.mp H; obtain ⟨t186, A170, H⟩ := H; replace H : (if x4_1.size + t186.size ≤ 9223372036854775807 then (if (x4_1 ++ t186).size + 1 ≤ 9223372036854775807 then ((spec_l05Short.f k1 ((rd_T80 l0_1 x5_1).f1)).bind fun t188 => (if ((x4_1 ++ t186) ++ (⟨#[1]⟩ : ByteArray)).size + t188.size ≤ 9223372036854775807 then (spec_BatchText.l0 k1 (((x4_1 ++ t186) ++ (⟨#[1]⟩ : ByteArray)) ++ t188) (wrap64 (x5_1 + 1)) a0_0 l0_1) else (none))) else (none)) else (none)) = some (r1, r2) := H; have A17 := Aside0.mk A170; clear A170; by_cases c18 : x4_1.size + t186.size ≤ 9223372036854775807
             · rw [if_pos c18] at H; have c18b0 := eq_true c18; have c18b1 : decide (x4_1.size + t186.size ≤ 9223372036854775807) = true := decide_eq_true c18
               try have c18b2 : (9223372036854775807 < x4_1.size + t186.size) = False := eq_false (Nat.not_lt.2 c18)
               by_cases c19 : (x4_1 ++ t186).size + 1 ≤ 9223372036854775807
               · rw [if_pos c19] at H; have c19b0 := eq_true c19; have c19b1 : decide ((x4_1 ++ t186).size + 1 ≤ 9223372036854775807) = true := decide_eq_true c19
                 try have c19b2 : (9223372036854775807 < (x4_1 ++ t186).size + 1) = False := eq_false (Nat.not_lt.2 c19)
                 try (have c19b3 := c19b2; simp only [ByteArray.size_append] at c19b3)
                 replace H := Option.bind_eq_some_iff.mp H; obtain ⟨t188, A200, H⟩ := H; replace H : (if ((x4_1 ++ t186) ++ (⟨#[1]⟩ : ByteArray)).size + t188.size ≤ 9223372036854775807 then (spec_BatchText.l0 k1 (((x4_1 ++ t186) ++ (⟨#[1]⟩ : ByteArray)) ++ t188) (wrap64 (x5_1 + 1)) a0_0 l0_1) else (none)) = some (r1, r2) := H; have A20 := Aside0.mk A200; clear A200; by_cases c21 : ((x4_1 ++ t186) ++ (⟨#[1]⟩ : ByteArray)).size + t188.size ≤ 9223372036854775807
                 · rw [if_pos c21] at H; have c21b0 := eq_true c21; have c21b1 : decide (((x4_1 ++ t186) ++ (⟨#[1]⟩ : ByteArray)).size + t188.size ≤ 9223372036854775807) = true := decide_eq_true c21
                   try have c21b2 : (9223372036854775807 < ((x4_1 ++ t186) ++ (⟨#[1]⟩ : ByteArray)).size + t188.size) = False := eq_false (Nat.not_lt.2 c21)
                   try (have c21b3 := c21b2; simp only [ByteArray.size_append, show (⟨#[1]⟩ : ByteArray).size = 1 from rfl] at c21b3)
                   have H' := Aside0.mk H; clear H; obtain ⟨hcz22_0, hcz22_1, hfz22_0, hfz22_1⟩ := ba2 BK180; have p184 : 0 ≤ (x5_1 : Int) := of_decide_eq_true t6_; have q184 : x5_1 < (l0_1.length : Int) := of_decide_eq_true t6_; obtain ⟨ad184, e184, hx184_0, hx184_1, hx184_2⟩ := at_T80 HR0_1.out x5_1 p184 q184
                   (try rw [← Nbq15.out] at hx184_2)
                   (try rw [← Nbq15.out] at hw184_2)
                   cases e184
                   replace hx184_0 := cW HB hx184_0; replace hx184_1 := cW HB hx184_1; replace hx184_2 := cW HB hx184_2; replace p184 := eq_true p184; replace q184 := eq_true q184
                   try go_wp2
                   replace BK180 := Aside0.mk (blk_drew BK180.out); replace HB := Aside0.mk (below_drew1 HB.out); have p185 : 0 ≤ (x5_1 : Int) := of_decide_eq_true t6_; have q185 : x5_1 < (l0_1.length : Int) := of_decide_eq_true t6_; obtain ⟨ad185, e185, hx185_0, hx185_1, hx185_2⟩ := at_T80 HR0_1.out x5_1 p185 q185; have hw185_2 := hx185_2; have hw185_1 := hx185_1; have hw185_0 := hx185_0
                   (try rw [← Nbq15.out] at hx185_2)
                   (try rw [← Nbq15.out] at hw185_2)
                   obtain rfl : ad184 = ad185 := (by injection e185); replace hx185_0 := cW HB hx185_0; replace hx185_1 := cW HB hx185_1; replace hx185_2 := cW HB hx185_2; replace p185 := eq_true p185; replace q185 := eq_true q185; have p187 : 0 ≤ (x5_1 : Int) := of_decide_eq_true t6_; have q187 : x5_1 < (l0_1.length : Int) := of_decide_eq_true t6_; obtain ⟨ad187, e187, hx187_0, hx187_1, hx187_2⟩ := at_T80 HR0_1.out x5_1 p187 q187; have hw187_2 := hx187_2; have hw187_1 := hx187_1; have hw187_0 := hx187_0
                   (try rw [← Nbq15.out] at hx187_2)
                   (try rw [← Nbq15.out] at hw187_2)
                   obtain rfl : ad184 = ad187 := (by injection e187); replace hx187_0 := cW HB hx187_0; replace hx187_1 := cW HB hx187_1; replace hx187_2 := cW HB hx187_2; replace p187 := eq_true p187; replace q187 := eq_true q187; refine start_ (n := 20) (S := fun w' => w'.cell? ⟨gb180, 0, none⟩ = some (.int .i64 a0_0) ∧ w'.cell? ⟨gb180, 1, none⟩ = some (.slice (some ad184) l0_1.length c0_1) ∧ w'.cell? (ad184.add ((x5_1).toNat * 3)) = some (.string ((rd_T80 l0_1 x5_1).f0)) ∧ w'.cell? ⟨(ad184.add ((x5_1).toNat * 3)).block, (ad184.add ((x5_1).toNat * 3)).off + 1, none⟩ = some (.string ((rd_T80 l0_1 x5_1).f1)) ∧ w'.cell? ⟨(ad184.add ((x5_1).toNat * 3)).block, (ad184.add ((x5_1).toNat * 3)).off + 2, none⟩ = some (.bool (true)) ∧ w'.cell? (ad184.add ((x5_1).toNat * 3)) = some (.string ((rd_T80 l0_1 x5_1).f0)) ∧ w'.cell? ⟨(ad184.add ((x5_1).toNat * 3)).block, (ad184.add ((x5_1).toNat * 3)).off + 1, none⟩ = some (.string ((rd_T80 l0_1 x5_1).f1)) ∧ w'.cell? ⟨(ad184.add ((x5_1).toNat * 3)).block, (ad184.add ((x5_1).toNat * 3)).off + 2, none⟩ = some (.bool (true))) (ds := []) #[false, false, false, false, false, false, false, false, false, false, false, false, false, false, false, false, false, false, false, false] (by kernel_rfl) rfl rfl ⟨bc0 BK180, bc1 BK180, ((HB.out.cell (World.block_lt_of_cell? w _ hw185_0)).trans hw185_0), ((HB.out.cell (World.block_lt_of_cell? w _ hw185_1)).trans hw185_1), ((HB.out.cell (World.block_lt_of_cell? w _ hw185_2)).trans hw185_2), ((HB.out.cell (World.block_lt_of_cell? w _ hw187_0)).trans hw187_0), ((HB.out.cell (World.block_lt_of_cell? w _ hw187_1)).trans hw187_1), ((HB.out.cell (World.block_lt_of_cell? w _ hw187_2)).trans hw187_2)⟩ (fun hHeld => ?_); refine with_tabW spec_BatchText.tab10 spec_BatchText.bits10 (fun HT_ HW_ => ?_)
                   generalize wr.drew = w23 at BK180 HB hx185_0 hx185_1 hx185_2 hx187_0 hx187_1 hx187_2 hHeld ⊢; refine pure_ (i := 0) (N := some 31) (v := ?_) (a' := ?_) #[true, false, false, false, false, false, false, false, false, false, false, false, false, false, false, false, false, false, false, false] rfl rfl (any_of HT_.out (by kernel_rfl)) (fun _ _ _ h => h) (Or.inl ⟨by rfl, ?_⟩) ?_ ?_
                   rotate_left
                   · intro w'; go_simp; with_reducible rfl
                   rotate_left
                   · simp only [Act.put, ps1, ps2, ps3, i64_w, i32_w]; rfl
                   refine pure_ (i := 1) (N := some 32) (v := ?_) (a' := ?_) #[true, true, false, false, false, false, false, false, false, false, false, false, false, false, false, false, false, false, false, false] rfl rfl (any_of HT_.out (by kernel_rfl)) (fun _ _ _ h => h) (Or.inl ⟨by rfl, ?_⟩) ?_ ?_
                   rotate_left
                   · intro w'; go_simp; with_reducible rfl
                   rotate_left
                   · simp only [Act.put, ps1, ps2, ps3, i64_w, i32_w]; rfl
                   refine pure_ (i := 3) (N := some 34) (v := ?_) (a' := ?_) #[true, true, false, true, false, false, false, false, false, false, false, false, false, false, false, false, false, false, false, false] rfl rfl (any_of HT_.out (by kernel_rfl)) (fun _ _ _ h => h) (Or.inl ⟨by rfl, ?_⟩) ?_ ?_
                   rotate_left
                   · intro w'; go_simp; with_reducible rfl
                   rotate_left
                   · simp only [Act.put, ps1, ps2, ps3, i64_w, i32_w]; rfl
                   refine pure_ (i := 9) (N := some 40) (v := ?_) (a' := ?_) #[true, true, false, true, false, false, false, false, false, true, false, false, false, false, false, false, false, false, false, false] rfl rfl (any_of HT_.out (by kernel_rfl)) (fun _ _ _ h => h) (Or.inl ⟨by rfl, ?_⟩) ?_ ?_
                   rotate_left
                   · intro w'; go_simp; with_reducible rfl
                   rotate_left
                   · simp only [Act.put, ps1, ps2, ps3, i64_w, i32_w]; rfl
                   refine pure_ (i := 11) (N := some 42) (v := ?_) (a' := ?_) #[true, true, false, true, false, false, false, false, false, true, false, true, false, false, false, false, false, false, false, false] rfl rfl (any_of HT_.out (by kernel_rfl)) (fun _ _ _ h => h) (Or.inl ⟨by rfl, ?_⟩) ?_ ?_
                   rotate_left
                   · intro w'; go_simp; with_reducible rfl
                   rotate_left
                   · simp only [Act.put, ps1, ps2, ps3, i64_w, i32_w]; rfl
                   refine pure_ (i := 13) (N := some 44) (v := ?_) (a' := ?_) #[true, true, false, true, false, false, false, false, false, true, false, true, false, true, false, false, false, false, false, false] rfl rfl (any_of HT_.out (by kernel_rfl)) (fun _ _ _ h => h) (Or.inl ⟨by rfl, ?_⟩) ?_ ?_
                   rotate_left
                   · intro w'; go_simp; with_reducible rfl
                   rotate_left
                   · simp only [Act.put, ps1, ps2, ps3, i64_w, i32_w]; rfl
                   refine take_ (i := 2) (N := some 33) (v := ?_) (a' := ?_) #[true, true, true, true, false, false, false, false, false, true, false, true, false, true, false, false, false, false, false, false] rfl rfl (take_ofW HT_.out HW_.out (by kernel_rfl)) (fun _ _ _ h => h) (Or.inl ⟨by rfl, ?_⟩) hHeld ?_ ?_
                   rotate_left
                   · rintro w' ⟨s0, s1, s2, s3, s4, s5, s6, s7⟩; go_simp; with_reducible rfl
                   rotate_left
                   · simp only [Act.put, ps1, ps2, ps3, i64_w, i32_w]; rfl
                   refine pure_ (i := 4) (N := some 35) (v := ?_) (a' := ?_) #[true, true, true, true, true, false, false, false, false, true, false, true, false, true, false, false, false, false, false, false] rfl rfl (any_of HT_.out (by kernel_rfl)) (fun _ _ _ h => h) (Or.inl ⟨by rfl, ?_⟩) ?_ ?_
                   rotate_left
                   · intro w'; go_simp; with_reducible rfl
                   rotate_left
                   · simp only [Act.put, ps1, ps2, ps3, i64_w, i32_w]; rfl
                   refine pure_ (i := 5) (N := some 36) (v := ?_) (a' := ?_) #[true, true, true, true, true, true, false, false, false, true, false, true, false, true, false, false, false, false, false, false] rfl rfl (any_of HT_.out (by kernel_rfl)) (fun _ _ _ h => h) (Or.inl ⟨by rfl, ?_⟩) ?_ ?_
                   rotate_left
                   · intro w'; go_simp; with_reducible rfl
                   rotate_left
                   · simp only [Act.put, ps1, ps2, ps3, i64_w, i32_w]; rfl
                   refine take_ (i := 6) (N := some 37) (v := ?_) (a' := ?_) #[true, true, true, true, true, true, true, false, false, true, false, true, false, true, false, false, false, false, false, false] rfl rfl (take_ofW HT_.out HW_.out (by kernel_rfl)) (fun _ _ _ h => h) (Or.inl ⟨by rfl, ?_⟩) hHeld ?_ ?_
                   rotate_left
                   · rintro w' ⟨s0, s1, s2, s3, s4, s5, s6, s7⟩; go_simp; with_reducible rfl
                   rotate_left
                   · simp only [Act.put, ps1, ps2, ps3, i64_w, i32_w]; rfl
                   refine take_ (i := 12) (N := some 43) (v := ?_) (a' := ?_) #[true, true, true, true, true, true, true, false, false, true, false, true, true, true, false, false, false, false, false, false] rfl rfl (take_ofW HT_.out HW_.out (by kernel_rfl)) (fun _ _ _ h => h) (Or.inl ⟨by rfl, ?_⟩) hHeld ?_ ?_
                   rotate_left
                   · rintro w' ⟨s0, s1, s2, s3, s4, s5, s6, s7⟩; go_simp; with_reducible rfl
                   rotate_left
                   · simp only [Act.put, ps1, ps2, ps3, i64_w, i32_w]; rfl
                   refine pure_ (i := 14) (N := some 45) (v := ?_) (a' := ?_) #[true, true, true, true, true, true, true, false, false, true, false, true, true, true, true, false, false, false, false, false] rfl rfl (any_of HT_.out (by kernel_rfl)) (fun _ _ _ h => h) (Or.inl ⟨by rfl, ?_⟩) ?_ ?_
                   rotate_left
                   · intro w'; go_simp; with_reducible rfl
                   rotate_left
                   · simp only [Act.put, ps1, ps2, ps3, i64_w, i32_w]; rfl
                   refine pure_ (i := 15) (N := some 46) (v := ?_) (a' := ?_) #[true, true, true, true, true, true, true, false, false, true, false, true, true, true, true, true, false, false, false, false] rfl rfl (any_of HT_.out (by kernel_rfl)) (fun _ _ _ h => h) (Or.inl ⟨by rfl, ?_⟩) ?_ ?_
                   rotate_left
                   · intro w'; go_simp; with_reducible rfl
                   rotate_left
                   · simp only [Act.put, ps1, ps2, ps3, i64_w, i32_w]; rfl
                   refine take_ (i := 16) (N := some 47) (v := ?_) (a' := ?_) #[true, true, true, true, true, true, true, false, false, true, false, true, true, true, true, true, true, false, false, false] rfl rfl (take_ofW HT_.out HW_.out (by kernel_rfl)) (fun _ _ _ h => h) (Or.inl ⟨by rfl, ?_⟩) hHeld ?_ ?_
                   rotate_left
                   · rintro w' ⟨s0, s1, s2, s3, s4, s5, s6, s7⟩; go_simp; with_reducible rfl
                   rotate_left
                   · simp only [Act.put, ps1, ps2, ps3, i64_w, i32_w]; rfl
                   refine one_ (i := 7) (N := some 38) #[true, true, true, true, true, true, true, true, false, true, false, true, true, true, true, true, true, false, false, false] rfl rfl (one_of HT_.out (by kernel_rfl)) (by decide) (fun K hK => ?_)
                   refine goes_ Try.func96 (by kernel_rfl) rfl #[.string ((rd_T80 l0_1 x5_1).f0)] (by rfl) rfl rfl t5_ ?_
                   with_reducible refine (spec_l05Short.calls k1 ((rd_T80 l0_1 x5_1).f0) t186 _ A17.out).mono ?_
                   rintro e w24 ⟨rfl, hb⟩; refine ⟨_, rfl, ?_⟩
                   replace BK180 := bkN BK180 hb; replace HB := bS t14_ hb
                   (try clear hb)
                   (try clear hb2)
                   (try clear hk)
                   (try clear hi)
                   refine hK.out _ _ ⟨bc0 BK180, bc1 BK180, ((HB.out.cell (World.block_lt_of_cell? w _ hw185_0)).trans hw185_0), ((HB.out.cell (World.block_lt_of_cell? w _ hw185_1)).trans hw185_1), ((HB.out.cell (World.block_lt_of_cell? w _ hw185_2)).trans hw185_2), ((HB.out.cell (World.block_lt_of_cell? w _ hw187_0)).trans hw187_0), ((HB.out.cell (World.block_lt_of_cell? w _ hw187_1)).trans hw187_1), ((HB.out.cell (World.block_lt_of_cell? w _ hw187_2)).trans hw187_2)⟩ (fun hHeld => ?_)
                   clear hK K; refine norm_ (a' := ?_) ?_ ?_
                   rotate_left
                   · show Act.put _ (some 38) _ = _
                     simp only [Act.put, ps1, ps2, ps3, i64_w, i32_w]; rfl
                   refine pure_ (i := 8) (N := some 39) (v := ?_) (a' := ?_) #[true, true, true, true, true, true, true, true, true, true, false, true, true, true, true, true, true, false, false, false] rfl rfl (any_of HT_.out (by kernel_rfl)) (fun _ _ _ h => h) (Or.inl ⟨by rfl, ?_⟩) ?_ ?_
                   rotate_left
                   · intro w'; go_simp; with_reducible rfl
                   rotate_left
                   · simp only [Act.put, ps1, ps2, ps3, i64_w, i32_w]; rfl
                   refine pure_ (i := 10) (N := some 41) (v := ?_) (a' := ?_) #[true, true, true, true, true, true, true, true, true, true, true, true, true, true, true, true, true, false, false, false] rfl rfl (any_of HT_.out (by kernel_rfl)) (fun _ _ _ h => h) (Or.inl ⟨by rfl, ?_⟩) ?_ ?_
                   rotate_left
                   · intro w'; go_simp; with_reducible rfl
                   rotate_left
                   · simp only [Act.put, ps1, ps2, ps3, i64_w, i32_w]; rfl
                   refine one_ (i := 17) (N := some 48) #[true, true, true, true, true, true, true, true, true, true, true, true, true, true, true, true, true, true, false, false] rfl rfl (one_of HT_.out (by kernel_rfl)) (by decide) (fun K hK => ?_)
                   refine goes_ Try.func96 (by kernel_rfl) rfl #[.string ((rd_T80 l0_1 x5_1).f1)] (by rfl) rfl rfl t5_ ?_
                   with_reducible refine (spec_l05Short.calls k1 ((rd_T80 l0_1 x5_1).f1) t188 _ A20.out).mono ?_
                   rintro e w25 ⟨rfl, hb⟩; refine ⟨_, rfl, ?_⟩
                   replace BK180 := bkN BK180 hb; replace HB := bS t14_ hb
                   (try clear hb)
                   (try clear hb2)
                   (try clear hk)
                   (try clear hi)
                   refine hK.out _ _ ⟨bc0 BK180, bc1 BK180, ((HB.out.cell (World.block_lt_of_cell? w _ hw185_0)).trans hw185_0), ((HB.out.cell (World.block_lt_of_cell? w _ hw185_1)).trans hw185_1), ((HB.out.cell (World.block_lt_of_cell? w _ hw185_2)).trans hw185_2), ((HB.out.cell (World.block_lt_of_cell? w _ hw187_0)).trans hw187_0), ((HB.out.cell (World.block_lt_of_cell? w _ hw187_1)).trans hw187_1), ((HB.out.cell (World.block_lt_of_cell? w _ hw187_2)).trans hw187_2)⟩ (fun hHeld => ?_)
                   clear hK K; refine norm_ (a' := ?_) ?_ ?_
                   rotate_left
                   · show Act.put _ (some 48) _ = _
                     simp only [Act.put, ps1, ps2, ps3, i64_w, i32_w]; rfl
                   refine pure_ (i := 18) (N := some 49) (v := ?_) (a' := ?_) #[true, true, true, true, true, true, true, true, true, true, true, true, true, true, true, true, true, true, true, false] rfl rfl (any_of HT_.out (by kernel_rfl)) (fun _ _ _ h => h) (Or.inl ⟨by rfl, ?_⟩) ?_ ?_
                   rotate_left
                   · intro w'; go_simp; with_reducible rfl
                   rotate_left
                   · simp only [Act.put, ps1, ps2, ps3, i64_w, i32_w]; rfl
                   refine pure_ (i := 19) (N := some 4) (v := ?_) (a' := ?_) #[true, true, true, true, true, true, true, true, true, true, true, true, true, true, true, true, true, true, true, true] rfl rfl (any_of HT_.out (by kernel_rfl)) (fun _ _ _ h => h) (Or.inl ⟨by rfl, ?_⟩) ?_ ?_
                   rotate_left
                   · intro w'; go_simp; with_reducible rfl
                   rotate_left
                   · simp only [Act.put, ps1, ps2, ps3, i64_w, i32_w]; rfl
                   refine done_ (done_of HT_.out (by kernel_rfl)) ?_
                   try go_wp2
                   go_roundg k1
                   case measure => have := HK1.out; omega
                   case rel => exact ⟨(((x4_1 ++ t186) ++ (⟨#[1]⟩ : ByteArray)) ++ t188), (wrap64 (x5_1 + 1)), t10_, t10_, H', ⟨by have := HK1.out; omega⟩, ⟨zN BK180⟩, ⟨t14_⟩⟩
                 · rw [if_neg c21] at H; exact absurd H (by simp)
               · rw [if_neg c19] at H; exact absurd H (by simp)
             · rw [if_neg c18] at H; exact absurd H (by simp)
           · replace c16 := Bool.eq_false_iff.mpr c16; subst c16; have H1 : ((spec_l05Short.f k1 ((rd_T80 l0_1 x5_1).f0)).bind fun t190 => (if x4_1.size + t190.size ≤ 9223372036854775807 then (if (x4_1 ++ t190).size + 1 ≤ 9223372036854775807 then ((spec_l05Short.f k1 ((rd_T80 l0_1 x5_1).f1)).bind fun t192 => (if ((x4_1 ++ t190) ++ (⟨#[0]⟩ : ByteArray)).size + t192.size ≤ 9223372036854775807 then (spec_BatchText.l0 k1 (((x4_1 ++ t190) ++ (⟨#[0]⟩ : ByteArray)) ++ t192) (wrap64 (x5_1 + 1)) a0_0 l0_1) else (none))) else (none)) else (none))) = some (r1, r2) := by rw [if_neg (show ¬ (false = true) by decide)] at H; exact H
             clear H; have H := H1; clear H1; replace H := Option.bind_eq_some_iff.mp H; obtain ⟨t190, A260, H⟩ := H; replace H : (if x4_1.size + t190.size ≤ 9223372036854775807 then (if (x4_1 ++ t190).size + 1 ≤ 9223372036854775807 then ((spec_l05Short.f k1 ((rd_T80 l0_1 x5_1).f1)).bind fun t192 => (if ((x4_1 ++ t190) ++ (⟨#[0]⟩ : ByteArray)).size + t192.size ≤ 9223372036854775807 then (spec_BatchText.l0 k1 (((x4_1 ++ t190) ++ (⟨#[0]⟩ : ByteArray)) ++ t192) (wrap64 (x5_1 + 1)) a0_0 l0_1) else (none))) else (none)) else (none)) = some (r1, r2) := H; have A26 := Aside0.mk A260; clear A260; by_cases c27 : x4_1.size + t190.size ≤ 9223372036854775807
             · rw [if_pos c27] at H; have c27b0 := eq_true c27; have c27b1 : decide (x4_1.size + t190.size ≤ 9223372036854775807) = true := decide_eq_true c27
               try have c27b2 : (9223372036854775807 < x4_1.size + t190.size) = False := eq_false (Nat.not_lt.2 c27)
               by_cases c28 : (x4_1 ++ t190).size + 1 ≤ 9223372036854775807
               · rw [if_pos c28] at H; have c28b0 := eq_true c28; have c28b1 : decide ((x4_1 ++ t190).size + 1 ≤ 9223372036854775807) = true := decide_eq_true c28
                 try have c28b2 : (9223372036854775807 < (x4_1 ++ t190).size + 1) = False := eq_false (Nat.not_lt.2 c28)
                 try (have c28b3 := c28b2; simp only [ByteArray.size_append] at c28b3)
                 replace H := Option.bind_eq_some_iff.mp H; obtain ⟨t192, A290, H⟩ := H; replace H : (if ((x4_1 ++ t190) ++ (⟨#[0]⟩ : ByteArray)).size + t192.size ≤ 9223372036854775807 then (spec_BatchText.l0 k1 (((x4_1 ++ t190) ++ (⟨#[0]⟩ : ByteArray)) ++ t192) (wrap64 (x5_1 + 1)) a0_0 l0_1) else (none)) = some (r1, r2) := H; have A29 := Aside0.mk A290; clear A290; by_cases c30 : ((x4_1 ++ t190) ++ (⟨#[0]⟩ : ByteArray)).size + t192.size ≤ 9223372036854775807
                 · rw [if_pos c30] at H; have c30b0 := eq_true c30; have c30b1 : decide (((x4_1 ++ t190) ++ (⟨#[0]⟩ : ByteArray)).size + t192.size ≤ 9223372036854775807) = true := decide_eq_true c30
                   try have c30b2 : (9223372036854775807 < ((x4_1 ++ t190) ++ (⟨#[0]⟩ : ByteArray)).size + t192.size) = False := eq_false (Nat.not_lt.2 c30)
                   try (have c30b3 := c30b2; simp only [ByteArray.size_append, show (⟨#[0]⟩ : ByteArray).size = 1 from rfl] at c30b3)
                   have H' := Aside0.mk H; clear H; obtain ⟨hcz31_0, hcz31_1, hfz31_0, hfz31_1⟩ := ba2 BK180; have p184 : 0 ≤ (x5_1 : Int) := of_decide_eq_true t6_; have q184 : x5_1 < (l0_1.length : Int) := of_decide_eq_true t6_; obtain ⟨ad184, e184, hx184_0, hx184_1, hx184_2⟩ := at_T80 HR0_1.out x5_1 p184 q184
                   (try rw [← Nbq15.out] at hx184_2)
                   (try rw [← Nbq15.out] at hw184_2)
                   cases e184
                   replace hx184_0 := cW HB hx184_0; replace hx184_1 := cW HB hx184_1; replace hx184_2 := cW HB hx184_2; replace p184 := eq_true p184; replace q184 := eq_true q184
                   try go_wp2
                   replace BK180 := Aside0.mk (blk_drew BK180.out); replace HB := Aside0.mk (below_drew1 HB.out); have p189 : 0 ≤ (x5_1 : Int) := of_decide_eq_true t6_; have q189 : x5_1 < (l0_1.length : Int) := of_decide_eq_true t6_; obtain ⟨ad189, e189, hx189_0, hx189_1, hx189_2⟩ := at_T80 HR0_1.out x5_1 p189 q189; have hw189_2 := hx189_2; have hw189_1 := hx189_1; have hw189_0 := hx189_0
                   (try rw [← Nbq15.out] at hx189_2)
                   (try rw [← Nbq15.out] at hw189_2)
                   obtain rfl : ad184 = ad189 := (by injection e189); replace hx189_0 := cW HB hx189_0; replace hx189_1 := cW HB hx189_1; replace hx189_2 := cW HB hx189_2; replace p189 := eq_true p189; replace q189 := eq_true q189; have p191 : 0 ≤ (x5_1 : Int) := of_decide_eq_true t6_; have q191 : x5_1 < (l0_1.length : Int) := of_decide_eq_true t6_; obtain ⟨ad191, e191, hx191_0, hx191_1, hx191_2⟩ := at_T80 HR0_1.out x5_1 p191 q191; have hw191_2 := hx191_2; have hw191_1 := hx191_1; have hw191_0 := hx191_0
                   (try rw [← Nbq15.out] at hx191_2)
                   (try rw [← Nbq15.out] at hw191_2)
                   obtain rfl : ad184 = ad191 := (by injection e191); replace hx191_0 := cW HB hx191_0; replace hx191_1 := cW HB hx191_1; replace hx191_2 := cW HB hx191_2; replace p191 := eq_true p191; replace q191 := eq_true q191; refine start_ (n := 20) (S := fun w' => w'.cell? ⟨gb180, 0, none⟩ = some (.int .i64 a0_0) ∧ w'.cell? ⟨gb180, 1, none⟩ = some (.slice (some ad184) l0_1.length c0_1) ∧ w'.cell? (ad184.add ((x5_1).toNat * 3)) = some (.string ((rd_T80 l0_1 x5_1).f0)) ∧ w'.cell? ⟨(ad184.add ((x5_1).toNat * 3)).block, (ad184.add ((x5_1).toNat * 3)).off + 1, none⟩ = some (.string ((rd_T80 l0_1 x5_1).f1)) ∧ w'.cell? ⟨(ad184.add ((x5_1).toNat * 3)).block, (ad184.add ((x5_1).toNat * 3)).off + 2, none⟩ = some (.bool (false)) ∧ w'.cell? (ad184.add ((x5_1).toNat * 3)) = some (.string ((rd_T80 l0_1 x5_1).f0)) ∧ w'.cell? ⟨(ad184.add ((x5_1).toNat * 3)).block, (ad184.add ((x5_1).toNat * 3)).off + 1, none⟩ = some (.string ((rd_T80 l0_1 x5_1).f1)) ∧ w'.cell? ⟨(ad184.add ((x5_1).toNat * 3)).block, (ad184.add ((x5_1).toNat * 3)).off + 2, none⟩ = some (.bool (false))) (ds := []) #[false, false, false, false, false, false, false, false, false, false, false, false, false, false, false, false, false, false, false, false] (by kernel_rfl) rfl rfl ⟨bc0 BK180, bc1 BK180, ((HB.out.cell (World.block_lt_of_cell? w _ hw189_0)).trans hw189_0), ((HB.out.cell (World.block_lt_of_cell? w _ hw189_1)).trans hw189_1), ((HB.out.cell (World.block_lt_of_cell? w _ hw189_2)).trans hw189_2), ((HB.out.cell (World.block_lt_of_cell? w _ hw191_0)).trans hw191_0), ((HB.out.cell (World.block_lt_of_cell? w _ hw191_1)).trans hw191_1), ((HB.out.cell (World.block_lt_of_cell? w _ hw191_2)).trans hw191_2)⟩ (fun hHeld => ?_); refine with_tabW spec_BatchText.tab10 spec_BatchText.bits10 (fun HT_ HW_ => ?_)
                   generalize wr.drew = w32 at BK180 HB hx189_0 hx189_1 hx189_2 hx191_0 hx191_1 hx191_2 hHeld ⊢; refine pure_ (i := 0) (N := some 31) (v := ?_) (a' := ?_) #[true, false, false, false, false, false, false, false, false, false, false, false, false, false, false, false, false, false, false, false] rfl rfl (any_of HT_.out (by kernel_rfl)) (fun _ _ _ h => h) (Or.inl ⟨by rfl, ?_⟩) ?_ ?_
                   rotate_left
                   · intro w'; go_simp; with_reducible rfl
                   rotate_left
                   · simp only [Act.put, ps1, ps2, ps3, i64_w, i32_w]; rfl
                   refine pure_ (i := 1) (N := some 32) (v := ?_) (a' := ?_) #[true, true, false, false, false, false, false, false, false, false, false, false, false, false, false, false, false, false, false, false] rfl rfl (any_of HT_.out (by kernel_rfl)) (fun _ _ _ h => h) (Or.inl ⟨by rfl, ?_⟩) ?_ ?_
                   rotate_left
                   · intro w'; go_simp; with_reducible rfl
                   rotate_left
                   · simp only [Act.put, ps1, ps2, ps3, i64_w, i32_w]; rfl
                   refine pure_ (i := 3) (N := some 34) (v := ?_) (a' := ?_) #[true, true, false, true, false, false, false, false, false, false, false, false, false, false, false, false, false, false, false, false] rfl rfl (any_of HT_.out (by kernel_rfl)) (fun _ _ _ h => h) (Or.inl ⟨by rfl, ?_⟩) ?_ ?_
                   rotate_left
                   · intro w'; go_simp; with_reducible rfl
                   rotate_left
                   · simp only [Act.put, ps1, ps2, ps3, i64_w, i32_w]; rfl
                   refine pure_ (i := 9) (N := some 40) (v := ?_) (a' := ?_) #[true, true, false, true, false, false, false, false, false, true, false, false, false, false, false, false, false, false, false, false] rfl rfl (any_of HT_.out (by kernel_rfl)) (fun _ _ _ h => h) (Or.inl ⟨by rfl, ?_⟩) ?_ ?_
                   rotate_left
                   · intro w'; go_simp; with_reducible rfl
                   rotate_left
                   · simp only [Act.put, ps1, ps2, ps3, i64_w, i32_w]; rfl
                   refine pure_ (i := 11) (N := some 42) (v := ?_) (a' := ?_) #[true, true, false, true, false, false, false, false, false, true, false, true, false, false, false, false, false, false, false, false] rfl rfl (any_of HT_.out (by kernel_rfl)) (fun _ _ _ h => h) (Or.inl ⟨by rfl, ?_⟩) ?_ ?_
                   rotate_left
                   · intro w'; go_simp; with_reducible rfl
                   rotate_left
                   · simp only [Act.put, ps1, ps2, ps3, i64_w, i32_w]; rfl
                   refine pure_ (i := 13) (N := some 44) (v := ?_) (a' := ?_) #[true, true, false, true, false, false, false, false, false, true, false, true, false, true, false, false, false, false, false, false] rfl rfl (any_of HT_.out (by kernel_rfl)) (fun _ _ _ h => h) (Or.inl ⟨by rfl, ?_⟩) ?_ ?_
                   rotate_left
                   · intro w'; go_simp; with_reducible rfl
                   rotate_left
                   · simp only [Act.put, ps1, ps2, ps3, i64_w, i32_w]; rfl
                   refine take_ (i := 2) (N := some 33) (v := ?_) (a' := ?_) #[true, true, true, true, false, false, false, false, false, true, false, true, false, true, false, false, false, false, false, false] rfl rfl (take_ofW HT_.out HW_.out (by kernel_rfl)) (fun _ _ _ h => h) (Or.inl ⟨by rfl, ?_⟩) hHeld ?_ ?_
                   rotate_left
                   · rintro w' ⟨s0, s1, s2, s3, s4, s5, s6, s7⟩; go_simp; with_reducible rfl
                   rotate_left
                   · simp only [Act.put, ps1, ps2, ps3, i64_w, i32_w]; rfl
                   refine pure_ (i := 4) (N := some 35) (v := ?_) (a' := ?_) #[true, true, true, true, true, false, false, false, false, true, false, true, false, true, false, false, false, false, false, false] rfl rfl (any_of HT_.out (by kernel_rfl)) (fun _ _ _ h => h) (Or.inl ⟨by rfl, ?_⟩) ?_ ?_
                   rotate_left
                   · intro w'; go_simp; with_reducible rfl
                   rotate_left
                   · simp only [Act.put, ps1, ps2, ps3, i64_w, i32_w]; rfl
                   refine pure_ (i := 5) (N := some 36) (v := ?_) (a' := ?_) #[true, true, true, true, true, true, false, false, false, true, false, true, false, true, false, false, false, false, false, false] rfl rfl (any_of HT_.out (by kernel_rfl)) (fun _ _ _ h => h) (Or.inl ⟨by rfl, ?_⟩) ?_ ?_
                   rotate_left
                   · intro w'; go_simp; with_reducible rfl
                   rotate_left
                   · simp only [Act.put, ps1, ps2, ps3, i64_w, i32_w]; rfl
                   refine take_ (i := 6) (N := some 37) (v := ?_) (a' := ?_) #[true, true, true, true, true, true, true, false, false, true, false, true, false, true, false, false, false, false, false, false] rfl rfl (take_ofW HT_.out HW_.out (by kernel_rfl)) (fun _ _ _ h => h) (Or.inl ⟨by rfl, ?_⟩) hHeld ?_ ?_
                   rotate_left
                   · rintro w' ⟨s0, s1, s2, s3, s4, s5, s6, s7⟩; go_simp; with_reducible rfl
                   rotate_left
                   · simp only [Act.put, ps1, ps2, ps3, i64_w, i32_w]; rfl
                   refine take_ (i := 12) (N := some 43) (v := ?_) (a' := ?_) #[true, true, true, true, true, true, true, false, false, true, false, true, true, true, false, false, false, false, false, false] rfl rfl (take_ofW HT_.out HW_.out (by kernel_rfl)) (fun _ _ _ h => h) (Or.inl ⟨by rfl, ?_⟩) hHeld ?_ ?_
                   rotate_left
                   · rintro w' ⟨s0, s1, s2, s3, s4, s5, s6, s7⟩; go_simp; with_reducible rfl
                   rotate_left
                   · simp only [Act.put, ps1, ps2, ps3, i64_w, i32_w]; rfl
                   refine pure_ (i := 14) (N := some 45) (v := ?_) (a' := ?_) #[true, true, true, true, true, true, true, false, false, true, false, true, true, true, true, false, false, false, false, false] rfl rfl (any_of HT_.out (by kernel_rfl)) (fun _ _ _ h => h) (Or.inl ⟨by rfl, ?_⟩) ?_ ?_
                   rotate_left
                   · intro w'; go_simp; with_reducible rfl
                   rotate_left
                   · simp only [Act.put, ps1, ps2, ps3, i64_w, i32_w]; rfl
                   refine pure_ (i := 15) (N := some 46) (v := ?_) (a' := ?_) #[true, true, true, true, true, true, true, false, false, true, false, true, true, true, true, true, false, false, false, false] rfl rfl (any_of HT_.out (by kernel_rfl)) (fun _ _ _ h => h) (Or.inl ⟨by rfl, ?_⟩) ?_ ?_
                   rotate_left
                   · intro w'; go_simp; with_reducible rfl
                   rotate_left
                   · simp only [Act.put, ps1, ps2, ps3, i64_w, i32_w]; rfl
                   refine take_ (i := 16) (N := some 47) (v := ?_) (a' := ?_) #[true, true, true, true, true, true, true, false, false, true, false, true, true, true, true, true, true, false, false, false] rfl rfl (take_ofW HT_.out HW_.out (by kernel_rfl)) (fun _ _ _ h => h) (Or.inl ⟨by rfl, ?_⟩) hHeld ?_ ?_
                   rotate_left
                   · rintro w' ⟨s0, s1, s2, s3, s4, s5, s6, s7⟩; go_simp; with_reducible rfl
                   rotate_left
                   · simp only [Act.put, ps1, ps2, ps3, i64_w, i32_w]; rfl
                   refine one_ (i := 7) (N := some 38) #[true, true, true, true, true, true, true, true, false, true, false, true, true, true, true, true, true, false, false, false] rfl rfl (one_of HT_.out (by kernel_rfl)) (by decide) (fun K hK => ?_)
                   refine goes_ Try.func96 (by kernel_rfl) rfl #[.string ((rd_T80 l0_1 x5_1).f0)] (by rfl) rfl rfl t5_ ?_
                   with_reducible refine (spec_l05Short.calls k1 ((rd_T80 l0_1 x5_1).f0) t190 _ A26.out).mono ?_
                   rintro e w33 ⟨rfl, hb⟩; refine ⟨_, rfl, ?_⟩
                   replace BK180 := bkN BK180 hb; replace HB := bS t14_ hb
                   (try clear hb)
                   (try clear hb2)
                   (try clear hk)
                   (try clear hi)
                   refine hK.out _ _ ⟨bc0 BK180, bc1 BK180, ((HB.out.cell (World.block_lt_of_cell? w _ hw189_0)).trans hw189_0), ((HB.out.cell (World.block_lt_of_cell? w _ hw189_1)).trans hw189_1), ((HB.out.cell (World.block_lt_of_cell? w _ hw189_2)).trans hw189_2), ((HB.out.cell (World.block_lt_of_cell? w _ hw191_0)).trans hw191_0), ((HB.out.cell (World.block_lt_of_cell? w _ hw191_1)).trans hw191_1), ((HB.out.cell (World.block_lt_of_cell? w _ hw191_2)).trans hw191_2)⟩ (fun hHeld => ?_)
                   clear hK K; refine norm_ (a' := ?_) ?_ ?_
                   rotate_left
                   · show Act.put _ (some 38) _ = _
                     simp only [Act.put, ps1, ps2, ps3, i64_w, i32_w]; rfl
                   refine pure_ (i := 8) (N := some 39) (v := ?_) (a' := ?_) #[true, true, true, true, true, true, true, true, true, true, false, true, true, true, true, true, true, false, false, false] rfl rfl (any_of HT_.out (by kernel_rfl)) (fun _ _ _ h => h) (Or.inl ⟨by rfl, ?_⟩) ?_ ?_
                   rotate_left
                   · intro w'; go_simp; with_reducible rfl
                   rotate_left
                   · simp only [Act.put, ps1, ps2, ps3, i64_w, i32_w]; rfl
                   refine pure_ (i := 10) (N := some 41) (v := ?_) (a' := ?_) #[true, true, true, true, true, true, true, true, true, true, true, true, true, true, true, true, true, false, false, false] rfl rfl (any_of HT_.out (by kernel_rfl)) (fun _ _ _ h => h) (Or.inl ⟨by rfl, ?_⟩) ?_ ?_
                   rotate_left
                   · intro w'; go_simp; with_reducible rfl
                   rotate_left
                   · simp only [Act.put, ps1, ps2, ps3, i64_w, i32_w]; rfl
                   refine one_ (i := 17) (N := some 48) #[true, true, true, true, true, true, true, true, true, true, true, true, true, true, true, true, true, true, false, false] rfl rfl (one_of HT_.out (by kernel_rfl)) (by decide) (fun K hK => ?_)
                   refine goes_ Try.func96 (by kernel_rfl) rfl #[.string ((rd_T80 l0_1 x5_1).f1)] (by rfl) rfl rfl t5_ ?_
                   with_reducible refine (spec_l05Short.calls k1 ((rd_T80 l0_1 x5_1).f1) t192 _ A29.out).mono ?_
                   rintro e w34 ⟨rfl, hb⟩; refine ⟨_, rfl, ?_⟩
                   replace BK180 := bkN BK180 hb; replace HB := bS t14_ hb
                   (try clear hb)
                   (try clear hb2)
                   (try clear hk)
                   (try clear hi)
                   refine hK.out _ _ ⟨bc0 BK180, bc1 BK180, ((HB.out.cell (World.block_lt_of_cell? w _ hw189_0)).trans hw189_0), ((HB.out.cell (World.block_lt_of_cell? w _ hw189_1)).trans hw189_1), ((HB.out.cell (World.block_lt_of_cell? w _ hw189_2)).trans hw189_2), ((HB.out.cell (World.block_lt_of_cell? w _ hw191_0)).trans hw191_0), ((HB.out.cell (World.block_lt_of_cell? w _ hw191_1)).trans hw191_1), ((HB.out.cell (World.block_lt_of_cell? w _ hw191_2)).trans hw191_2)⟩ (fun hHeld => ?_)
                   clear hK K; refine norm_ (a' := ?_) ?_ ?_
                   rotate_left
                   · show Act.put _ (some 48) _ = _
                     simp only [Act.put, ps1, ps2, ps3, i64_w, i32_w]; rfl
                   refine pure_ (i := 18) (N := some 49) (v := ?_) (a' := ?_) #[true, true, true, true, true, true, true, true, true, true, true, true, true, true, true, true, true, true, true, false] rfl rfl (any_of HT_.out (by kernel_rfl)) (fun _ _ _ h => h) (Or.inl ⟨by rfl, ?_⟩) ?_ ?_
                   rotate_left
                   · intro w'; go_simp; with_reducible rfl
                   rotate_left
                   · simp only [Act.put, ps1, ps2, ps3, i64_w, i32_w]; rfl
                   refine pure_ (i := 19) (N := some 4) (v := ?_) (a' := ?_) #[true, true, true, true, true, true, true, true, true, true, true, true, true, true, true, true, true, true, true, true] rfl rfl (any_of HT_.out (by kernel_rfl)) (fun _ _ _ h => h) (Or.inl ⟨by rfl, ?_⟩) ?_ ?_
                   rotate_left
                   · intro w'; go_simp; with_reducible rfl
                   rotate_left
                   · simp only [Act.put, ps1, ps2, ps3, i64_w, i32_w]; rfl
                   refine done_ (done_of HT_.out (by kernel_rfl)) ?_
                   try go_wp2
                   go_roundg k1
                   case measure => have := HK1.out; omega
                   case rel => exact ⟨(((x4_1 ++ t190) ++ (⟨#[0]⟩ : ByteArray)) ++ t192), (wrap64 (x5_1 + 1)), t10_, t10_, H', ⟨by have := HK1.out; omega⟩, ⟨zN BK180⟩, ⟨t14_⟩⟩
                 · rw [if_neg c30] at H; exact absurd H (by simp)
               · rw [if_neg c28] at H; exact absurd H (by simp)
             · rw [if_neg c27] at H; exact absurd H (by simp)
         · rw [if_neg c14] at H; exact absurd H (by simp)
       · rw [if_neg c13] at H; have c13b0 : decide (x5_1 < (l0_1.length : Int)) = false := decide_eq_false c13; clear c13; simp only [Option.some.injEq, Prod.mk.injEq] at H; obtain ⟨rfl, rfl⟩ := H; obtain ⟨hcz35_0, hcz35_1, hfz35_0, hfz35_1⟩ := ba2 BK180; go_wp2
         go_ret2
         exact ⟨by first | rfl | (simp [errW_none, errW_some] <;> rfl) | (simp [*, errW_none, errW_some] <;> rfl), t14_⟩
   · rw [if_neg c6] at H; exact absurd H (by simp)
 · replace c3 := Bool.eq_false_iff.mpr c3; subst c3; have H1 : (some ((⟨#[]⟩ : ByteArray), false)) = some (r1, r2) := by rw [if_neg (show ¬ (false = true) by decide)] at H; exact H
   clear H; have H := H1; clear H1; simp only [Option.some.injEq, Prod.mk.injEq] at H; obtain ⟨rfl, rfl⟩ := H; go_enter Try.func75, Try.ntmps75
   go_wp2_with (first | ((with_reducible refine gate_dst (N := 1) rfl ?_); refine boxE (N := 1) (cs := #[.int .i64 a0_0, .slice A0_1 l0_1.length c0_1]) (t := 46) (h := ?_); intro gb180 hg w36 hbox hb; have BK180 := Aside0.mk (hbox); have GW180 := Aside0.mk ((t7_ : w.heap.size ≤ gb180)); have GE180 := GW180; replace HB := bS t0_ hb; clear hb hbox hg; obtain ⟨hcz37_0, hcz37_1, hfz37_0, hfz37_1⟩ := ba2 BK180) | ((with_reducible refine gate_callee (f := 28) rfl ?_); refine goesL_ (some 8) rfl rfl Try.func28 (by kernel_rfl) rfl #[.agg #[.int .i64 a0_0, .slice A0_1 l0_1.length c0_1]] rfl t5_ ?_; (with_reducible refine (spec_BatchOk.calls k a0_0 _ _ l0_1 false _ ?side1 ?side2 A2.out).mono ?_); (case side1 => exact cB HR0_1 HB); (case side2 => exact HC0_1.out); rintro e w38 ⟨rfl, hb⟩; refine ⟨_, rfl, ?_⟩; replace BK180 := bkN BK180 hb; replace HB := bS t14_ hb; (try clear hb)))
   go_ret2
   exact ⟨by first | rfl | (simp [errW_none, errW_some] <;> rfl) | (simp [*, errW_none, errW_some] <;> rfl), t14_⟩

end Go.Proofs.Ytpnncgfmihjlkaa.QFnExactReadBatch
