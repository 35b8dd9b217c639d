-- By a program of this session, over the kit's print.
import Derived.Test.YtpnncgfmihjlkaaQFnExactReadManifestx0
import Derived.Test.YtpnncgfmihjlkaaQFnExactReadManifestx5
namespace Go.Proofs.Ytpnncgfmihjlkaa.QFnExactReadManifest
open Go.RowKit Go.Proofs.YtpnncgfmihjlkaaW.PrintWords Go.Proofs.YtpnncgfmihjlkaaW.PrintLast Go.Proofs.YtpnncgfmihjlkaaW.PrintMore
attribute [local go_sem] max2_int min2_int max_two min_two max_three min_three max_four min_four   -- for this text's walks alone
set_option linter.unusedVariables false
set_option linter.unusedSimpArgs false

/-! ### spec_ManifestText: function 17 -/
mutual
def spec_ManifestText.l0 : Nat → ByteArray → Int → List Int → Int → Int → Int → List Int → Option (ByteArray × Bool)
 | 0, _, _, _, _, _, _, _ => none
 | k + 1, x4, x5, x168000, x168001, x168002, x168003, x168004 => if x5 < (x168000.length : Int) then (if 0 ≤ x5 then ((spec_l01Var.f k (rd x168000 x5)).bind fun t171 => (if x4.size + t171.size ≤ 9223372036854775807 then (spec_ManifestText.l0 k (x4 ++ t171) (wrap64 (x5 + 1)) x168000 x168001 x168002 x168003 x168004) else (none))) else (none)) else ((spec_l01Var.f k x168001).bind fun t172 => (if x4.size + t172.size ≤ 9223372036854775807 then ((spec_l01Var.f k x168002).bind fun t173 => (if (x4 ++ t172).size + t173.size ≤ 9223372036854775807 then ((spec_l01Var.f k x168003).bind fun t174 => (if ((x4 ++ t172) ++ t173).size + t174.size ≤ 9223372036854775807 then ((spec_l01Var.f k (x168004.length : Int)).bind fun t175 => (if (((x4 ++ t172) ++ t173) ++ t174).size + t175.size ≤ 9223372036854775807 then (spec_ManifestText.l1 k ((((x4 ++ t172) ++ t173) ++ t174) ++ t175) 0 x168000 x168001 x168002 x168003 x168004) else (none))) else (none))) else (none))) else (none)))
def spec_ManifestText.l1 : Nat → ByteArray → Int → List Int → Int → Int → Int → List Int → Option (ByteArray × Bool)
 | 0, _, _, _, _, _, _, _ => none
 | k + 1, x4, x6, x168000, x168001, x168002, x168003, x168004 => if x6 < (x168004.length : Int) then (if 0 ≤ x6 then ((spec_l01Var.f k (rd x168004 x6)).bind fun t177 => (if x4.size + t177.size ≤ 9223372036854775807 then (spec_ManifestText.l1 k (x4 ++ t177) (wrap64 (x6 + 1)) x168000 x168001 x168002 x168003 x168004) else (none))) else (none)) else ((spec_Sealed.f k x4).bind fun bt178 => (some (bt178.1, bt178.2)))
end
def spec_ManifestText.f (k : Nat) (l0_0 : List Int) (a0_1 : Int) (a0_2 : Int) (a0_3 : Int) (l0_4 : List Int) : Option (ByteArray × Bool) := (spec_ManifestOk.f k l0_0 a0_1 a0_2 a0_3 l0_4).bind fun t168 => (if t168 = true then ((spec_l01Var.f k (l0_0.length : Int)).bind fun t169 => (spec_ManifestText.l0 k t169 0 l0_0 a0_1 a0_2 a0_3 l0_4)) else (some ((⟨#[]⟩ : ByteArray), false)))
theorem spec_ManifestText.mono_l : ∀ k, (∀ y0 y1 y2 y3 y4 y5 y6, LeO (spec_ManifestText.l0 k y0 y1 y2 y3 y4 y5 y6) (spec_ManifestText.l0 (k + 1) y0 y1 y2 y3 y4 y5 y6)) ∧ (∀ y0 y1 y2 y3 y4 y5 y6, LeO (spec_ManifestText.l1 k y0 y1 y2 y3 y4 y5 y6) (spec_ManifestText.l1 (k + 1) y0 y1 y2 y3 y4 y5 y6))
 | 0 => ⟨fun _ _ _ _ _ _ _ r h => by simp [spec_ManifestText.l0] at h, fun _ _ _ _ _ _ _ r h => by simp [spec_ManifestText.l1] at h⟩
 | k + 1 => by
  obtain ⟨ih0, ih1⟩ := spec_ManifestText.mono_l k; refine ⟨?_, ?_⟩
  · intro y0 y1 y2 y3 y4 y5 y6
    unfold spec_ManifestText.l0
    repeat' first
    | (with_reducible exact ih0 _ _ _ _ _ _ _)
    | (with_reducible exact ih1 _ _ _ _ _ _ _)
    | (with_reducible exact spec_ManifestOk.mono _ _ _ _ _ _)
    | (with_reducible exact spec_Sealed.mono _ _)
    | (with_reducible exact spec_l01Var.mono _ _)
    | (with_reducible exact LeO.refl _)
    | (with_reducible exact LeO.none _)
    | (with_reducible refine LeO.ite ?_ ?_)
    | (with_reducible refine LeO.bind ?_ (fun _ => ?_))
    | exact ih0 _ _ _ _ _ _ _
    | exact ih1 _ _ _ _ _ _ _
    | exact spec_ManifestOk.mono _ _ _ _ _ _
    | exact spec_Sealed.mono _ _
    | exact spec_l01Var.mono _ _
    | exact LeO.none _
    | refine LeO.ite ?_ ?_
    | refine LeO.bind ?_ (fun _ => ?_)
  · intro y0 y1 y2 y3 y4 y5 y6
    unfold spec_ManifestText.l1
    repeat' first
    | (with_reducible exact ih0 _ _ _ _ _ _ _)
    | (with_reducible exact ih1 _ _ _ _ _ _ _)
    | (with_reducible exact spec_ManifestOk.mono _ _ _ _ _ _)
    | (with_reducible exact spec_Sealed.mono _ _)
    | (with_reducible exact spec_l01Var.mono _ _)
    | (with_reducible exact LeO.refl _)
    | (with_reducible exact LeO.none _)
    | (with_reducible refine LeO.ite ?_ ?_)
    | (with_reducible refine LeO.bind ?_ (fun _ => ?_))
    | exact ih0 _ _ _ _ _ _ _
    | exact ih1 _ _ _ _ _ _ _
    | exact spec_ManifestOk.mono _ _ _ _ _ _
    | exact spec_Sealed.mono _ _
    | exact spec_l01Var.mono _ _
    | exact LeO.none _
    | refine LeO.ite ?_ ?_
    | refine LeO.bind ?_ (fun _ => ?_)
theorem spec_ManifestText.mono : ∀ a0 a1 a2 a3 a4 k, LeO (spec_ManifestText.f k a0 a1 a2 a3 a4) (spec_ManifestText.f (k + 1) a0 a1 a2 a3 a4) := by
 intro a0 a1 a2 a3 a4 k; obtain ⟨ih0, ih1⟩ := spec_ManifestText.mono_l k
 unfold spec_ManifestText.f
 repeat' first
  | (with_reducible exact ih0 _ _ _ _ _ _ _)
  | (with_reducible exact ih1 _ _ _ _ _ _ _)
  | (with_reducible exact spec_ManifestOk.mono _ _ _ _ _ _)
  | (with_reducible exact spec_Sealed.mono _ _)
  | (with_reducible exact spec_l01Var.mono _ _)
  | (with_reducible exact LeO.refl _)
  | (with_reducible exact LeO.none _)
  | (with_reducible refine LeO.ite ?_ ?_)
  | (with_reducible refine LeO.bind ?_ (fun _ => ?_))
  | exact ih0 _ _ _ _ _ _ _
  | exact ih1 _ _ _ _ _ _ _
  | exact spec_ManifestOk.mono _ _ _ _ _ _
  | exact spec_Sealed.mono _ _
  | exact spec_l01Var.mono _ _
  | exact LeO.none _
  | refine LeO.ite ?_ ?_
  | refine LeO.bind ?_ (fun _ => ?_)
def spec_ManifestText.T8 : Bool × List (List Nat × List Nat) := (true, [([], []), ([], []), ([1], [1]), ([2], [2]), ([0, 3], [0, 3]), ([], []), ([5], [5]), ([6, 3], [6]), ([4, 7], [4, 7]), ([], []), ([9], [9]), ([10, 7], [10]), ([8, 11], [8, 11]), ([], []), ([13], [13]), ([14], [14]), ([15, 11], [15]), ([12, 16], [12, 16]), ([17, 16, 0, 1, 2, 3, 4, 5, 6, 7, 8, 9, 10, 11, 12, 13, 14, 15, 16, 17], [0, 17])])
def spec_ManifestText.B8 : List Nat := [0, 0, 2, 6, 15, 0, 32, 110, 255, 0, 512, 1774, 4095, 0, 8192, 24576, 61166, 131071, 262143]
theorem spec_ManifestText.tab8 : rtab .any (opsOf Try.f17 8) = spec_ManifestText.T8 := by kernel_rfl
theorem spec_ManifestText.bits8 : waitsOk spec_ManifestText.T8.2 spec_ManifestText.B8 = true := by kernel_rfl
set_option maxHeartbeats 8000000 in
set_option maxRecDepth 100000 in
theorem spec_ManifestText.calls (k : Nat) (A0_0 : Option Addr) (c0_0 : Nat) (l0_0 : List Int) (a0_1 : Int) (a0_2 : Int) (a0_3 : Int) (A0_4 : Option Addr) (c0_4 : Nat) (l0_4 : List Int) (r1 : ByteArray) (r2 : Bool) (w : World) (hr0_0 : Kd.C (Kd.int .i64) w A0_0 l0_0.length l0_0) (hc0_0 : l0_0.length ≤ c0_0) (hr0_4 : Kd.C (Kd.int .i64) w A0_4 l0_4.length l0_4) (hc0_4 : l0_4.length ≤ c0_4) (h : spec_ManifestText.f k l0_0 a0_1 a0_2 a0_3 l0_4 = some (r1, r2)) :
 Calls Try.prog 17 #[.agg #[.slice A0_0 l0_0.length c0_0, .int .i64 a0_1, .int .i64 a0_2, .int .i64 a0_3, .slice A0_4 l0_4.length c0_4]] w fun e w' => e = .returned (.tuple #[.string r1, .bool r2]) ∧ Below w.heap.size w w' := by
 have hu36 := Try.underlying36; have HR0_0 := Aside0.mk hr0_0; have HC0_0 := Aside0.mk hc0_0; clear hr0_0 hc0_0; have HR0_4 := Aside0.mk hr0_4; have HC0_4 := Aside0.mk hc0_4; clear hr0_4 hc0_4; have HB := Aside0.mk (Below.refl w.heap.size w); have H : ((spec_ManifestOk.f k l0_0 a0_1 a0_2 a0_3 l0_4).bind fun t168 => (if t168 = true then ((spec_l01Var.f k (l0_0.length : Int)).bind fun t169 => (spec_ManifestText.l0 k t169 0 l0_0 a0_1 a0_2 a0_3 l0_4)) else (some ((⟨#[]⟩ : ByteArray), false)))) = some (r1, r2) := h; clear h; replace H := Option.bind_eq_some_iff.mp H; obtain ⟨t168, A20, H⟩ := H; replace H : (if t168 = true then ((spec_l01Var.f k (l0_0.length : Int)).bind fun t169 => (spec_ManifestText.l0 k t169 0 l0_0 a0_1 a0_2 a0_3 l0_4)) else (some ((⟨#[]⟩ : ByteArray), false))) = some (r1, r2) := H; have A2 := Aside0.mk A20; clear A20; by_cases c3 : t168 = true
 · subst c3; have H1 : ((spec_l01Var.f k (l0_0.length : Int)).bind fun t169 => (spec_ManifestText.l0 k t169 0 l0_0 a0_1 a0_2 a0_3 l0_4)) = some (r1, r2) := by rw [if_pos rfl] at H; exact H
   clear H; have H := H1; clear H1; replace H := Option.bind_eq_some_iff.mp H; obtain ⟨t169, A40, H⟩ := H; replace H : (spec_ManifestText.l0 k t169 0 l0_0 a0_1 a0_2 a0_3 l0_4) = some (r1, r2) := H; have A4 := Aside0.mk A40; clear A40; have H' := Aside0.mk H; clear H; go_enter Try.func17, Try.ntmps17
   go_wp2_with (first | ((with_reducible refine gate_dst (N := 1) rfl ?_); refine boxE (N := 1) (cs := #[.slice A0_0 l0_0.length c0_0, .int .i64 a0_1, .int .i64 a0_2, .int .i64 a0_3, .slice A0_4 l0_4.length c0_4]) (t := 36) (h := ?_); intro gb167 hg w5 hbox hb; have BK167 := Aside0.mk (hbox); have GW167 := Aside0.mk ((t5_ : w.heap.size ≤ gb167)); have GE167 := GW167; replace HB := bS t0_ hb; clear hb hbox hg; have hcz6_0 := bc0 BK167; have hcz6_1 := bc1 BK167; have hcz6_2 := bc2 BK167; have hcz6_3 := bc3 BK167; have hcz6_4 := bc4 BK167; have hfz6_0 := bf BK167 0; have hfz6_1 := bf BK167 1; have hfz6_2 := bf BK167 2; have hfz6_3 := bf BK167 3; have hfz6_4 := bf BK167 4) | ((with_reducible refine gate_callee (f := 23) rfl ?_); refine goesL_ (some 8) rfl rfl Try.func23 (by kernel_rfl) rfl #[.agg #[.slice A0_0 l0_0.length c0_0, .int .i64 a0_1, .int .i64 a0_2, .int .i64 a0_3, .slice A0_4 l0_4.length c0_4]] rfl t1_ ?_; (with_reducible refine (spec_ManifestOk.calls k _ _ l0_0 a0_1 a0_2 a0_3 _ _ l0_4 true _ ?side1 ?side2 ?side3 ?side4 A2.out).mono ?_); (case side1 => exact cB HR0_0 HB); (case side2 => exact HC0_0.out); (case side3 => exact cB HR0_4 HB); (case side4 => exact HC0_4.out); rintro e w7 ⟨rfl, hb⟩; refine ⟨_, rfl, ?_⟩; replace BK167 := bkN BK167 hb; replace HB := bS t7_ hb; (try clear hb); have hcz8_0 := bc0 BK167; have hcz8_1 := bc1 BK167; have hcz8_2 := bc2 BK167; have hcz8_3 := bc3 BK167; have hcz8_4 := bc4 BK167; have hfz8_0 := bf BK167 0; have hfz8_1 := bf BK167 1; have hfz8_2 := bf BK167 2; have hfz8_3 := bf BK167 3; have hfz8_4 := bf BK167 4) | ((with_reducible refine gate_callee (f := 43) rfl ?_); refine goesL_ (some 13) rfl rfl Try.func43 (by kernel_rfl) rfl #[.int .i64 (l0_0.length : Int)] rfl t1_ ?_; (with_reducible refine (spec_l01Var.calls k (l0_0.length : Int) t169 _ A4.out).mono ?_); rintro e w9 ⟨rfl, hb⟩; refine ⟨_, rfl, ?_⟩; replace BK167 := bkN BK167 hb; replace HB := bS t7_ hb; (try clear hb)))
   go_loopg [4, 5] k (fun kq v4 v5 w' => ∃ (x4_1 : ByteArray) (x5_1 : Int), v4 = .string x4_1 ∧ v5 = .int .i64 x5_1 ∧ Aside0 (spec_ManifestText.l0 kq x4_1 x5_1 l0_0 a0_1 a0_2 a0_3 l0_4 = some (r1, r2)) ∧ Aside0 (kq ≤ k) ∧ Aside0 (w'.heap[gb167]? = some (.cells #[(.slice A0_0 l0_0.length c0_0), .int .i64 a0_1, .int .i64 a0_2, .int .i64 a0_3, (.slice A0_4 l0_4.length c0_4)] 36 (0, 0))) ∧ Aside0 (Below w.heap.size w w'))
   case atStart => exact ⟨(t169), (0), t6_, t6_, H', ⟨Nat.le_refl _⟩, ⟨zN BK167⟩, ⟨t7_⟩⟩
   case round =>
    clear H'
    try clear c1
    try clear c2
    try clear p2
    try clear c3
    try clear c4
    try clear hcz6_0
    try clear hcz6_1
    try clear hcz6_2
    try clear hcz6_3
    try clear hcz6_4
    try clear hcz8_0
    try clear hcz8_1
    try clear hcz8_2
    try clear hcz8_3
    try clear hcz8_4
    try clear hfz6_0
    try clear hfz6_1
    try clear hfz6_2
    try clear hfz6_3
    try clear hfz6_4
    try clear hfz8_0
    try clear hfz8_1
    try clear hfz8_2
    try clear hfz8_3
    try clear hfz8_4
    obtain ⟨x4_1, x5_1, rfl, rfl, HA, HK1, BK167, HB⟩ := hrel
    cases gk with
    | zero => exact absurd HA.out (by simp [spec_ManifestText.l0])
    | succ k1 =>
     have H := HA.out; clear HA; simp only [spec_ManifestText.l0] at H; by_cases c10 : x5_1 < (l0_0.length : Int)
     · rw [if_pos c10] at H; have c10b0 : decide (x5_1 < (l0_0.length : Int)) = true := decide_eq_true c10; clear c10; by_cases c11 : 0 ≤ x5_1
       · rw [if_pos c11] at H; have c11b0 : decide (0 ≤ x5_1) = true := decide_eq_true c11; clear c11; replace H := Option.bind_eq_some_iff.mp H; obtain ⟨t171, A120, H⟩ := H; replace H : (if x4_1.size + t171.size ≤ 9223372036854775807 then (spec_ManifestText.l0 k1 (x4_1 ++ t171) (wrap64 (x5_1 + 1)) l0_0 a0_1 a0_2 a0_3 l0_4) else (none)) = some (r1, r2) := H; have A12 := Aside0.mk A120; clear A120; by_cases c13 : x4_1.size + t171.size ≤ 9223372036854775807
         · rw [if_pos c13] at H; have c13b0 := eq_true c13; have c13b1 : decide (x4_1.size + t171.size ≤ 9223372036854775807) = true := decide_eq_true c13
           try have c13b2 : (9223372036854775807 < x4_1.size + t171.size) = False := eq_false (Nat.not_lt.2 c13)
           have H' := Aside0.mk H; clear H; have hcz14_0 := bc0 BK167; have hcz14_1 := bc1 BK167; have hcz14_2 := bc2 BK167; have hcz14_3 := bc3 BK167; have hcz14_4 := bc4 BK167; have hfz14_0 := bf BK167 0; have hfz14_1 := bf BK167 1; have hfz14_2 := bf BK167 2; have hfz14_3 := bf BK167 3; have hfz14_4 := bf BK167 4; have p170 : 0 ≤ (x5_1 : Int) := of_decide_eq_true t3_; have q170 : x5_1 < (l0_0.length : Int) := of_decide_eq_true t3_; obtain ⟨ad170, e170, hx170_0⟩ := Kd.at_int HR0_0.out x5_1 p170 q170
           cases e170
           replace hx170_0 := cW HB hx170_0; replace p170 := eq_true p170; replace q170 := eq_true q170
           go_wp2_with (first | ((with_reducible refine gate_callee (f := 43) rfl ?_); refine goesL_ (some 27) rfl rfl Try.func43 (by kernel_rfl) rfl #[.int .i64 (rd l0_0 x5_1)] rfl t1_ ?_; (with_reducible refine (spec_l01Var.calls k1 (rd l0_0 x5_1) t171 _ A12.out).mono ?_); rintro e w15 ⟨rfl, hb⟩; refine ⟨_, rfl, ?_⟩; replace BK167 := bkN BK167 hb; replace HB := bS t7_ hb; (try clear hb)))
           go_roundg k1
           case measure => have := HK1.out; omega
           case rel => exact ⟨(x4_1 ++ t171), (wrap64 (x5_1 + 1)), t6_, t6_, H', ⟨by have := HK1.out; omega⟩, ⟨zN BK167⟩, ⟨t7_⟩⟩
         · rw [if_neg c13] at H; exact absurd H (by simp)
       · rw [if_neg c11] at H; exact absurd H (by simp)
     · rw [if_neg c10] at H; have c10b0 : decide (x5_1 < (l0_0.length : Int)) = false := decide_eq_false c10; clear c10; replace H := Option.bind_eq_some_iff.mp H; obtain ⟨t172, A160, H⟩ := H; replace H : (if x4_1.size + t172.size ≤ 9223372036854775807 then ((spec_l01Var.f k1 a0_2).bind fun t173 => (if (x4_1 ++ t172).size + t173.size ≤ 9223372036854775807 then ((spec_l01Var.f k1 a0_3).bind fun t174 => (if ((x4_1 ++ t172) ++ t173).size + t174.size ≤ 9223372036854775807 then ((spec_l01Var.f k1 (l0_4.length : Int)).bind fun t175 => (if (((x4_1 ++ t172) ++ t173) ++ t174).size + t175.size ≤ 9223372036854775807 then (spec_ManifestText.l1 k1 ((((x4_1 ++ t172) ++ t173) ++ t174) ++ t175) 0 l0_0 a0_1 a0_2 a0_3 l0_4) else (none))) else (none))) else (none))) else (none)) = some (r1, r2) := H; have A16 := Aside0.mk A160; clear A160; by_cases c17 : x4_1.size + t172.size ≤ 9223372036854775807
       · rw [if_pos c17] at H; have c17b0 := eq_true c17; have c17b1 : decide (x4_1.size + t172.size ≤ 9223372036854775807) = true := decide_eq_true c17
         try have c17b2 : (9223372036854775807 < x4_1.size + t172.size) = False := eq_false (Nat.not_lt.2 c17)
         replace H := Option.bind_eq_some_iff.mp H; obtain ⟨t173, A180, H⟩ := H; replace H : (if (x4_1 ++ t172).size + t173.size ≤ 9223372036854775807 then ((spec_l01Var.f k1 a0_3).bind fun t174 => (if ((x4_1 ++ t172) ++ t173).size + t174.size ≤ 9223372036854775807 then ((spec_l01Var.f k1 (l0_4.length : Int)).bind fun t175 => (if (((x4_1 ++ t172) ++ t173) ++ t174).size + t175.size ≤ 9223372036854775807 then (spec_ManifestText.l1 k1 ((((x4_1 ++ t172) ++ t173) ++ t174) ++ t175) 0 l0_0 a0_1 a0_2 a0_3 l0_4) else (none))) else (none))) else (none)) = some (r1, r2) := H; have A18 := Aside0.mk A180; clear A180; by_cases c19 : (x4_1 ++ t172).size + t173.size ≤ 9223372036854775807
         · rw [if_pos c19] at H; have c19b0 := eq_true c19; have c19b1 : decide ((x4_1 ++ t172).size + t173.size ≤ 9223372036854775807) = true := decide_eq_true c19
           try have c19b2 : (9223372036854775807 < (x4_1 ++ t172).size + t173.size) = False := eq_false (Nat.not_lt.2 c19)
           try (have c19b3 := c19b2; simp only [ByteArray.size_append] at c19b3)
           replace H := Option.bind_eq_some_iff.mp H; obtain ⟨t174, A200, H⟩ := H; replace H : (if ((x4_1 ++ t172) ++ t173).size + t174.size ≤ 9223372036854775807 then ((spec_l01Var.f k1 (l0_4.length : Int)).bind fun t175 => (if (((x4_1 ++ t172) ++ t173) ++ t174).size + t175.size ≤ 9223372036854775807 then (spec_ManifestText.l1 k1 ((((x4_1 ++ t172) ++ t173) ++ t174) ++ t175) 0 l0_0 a0_1 a0_2 a0_3 l0_4) else (none))) else (none)) = some (r1, r2) := H; have A20 := Aside0.mk A200; clear A200; by_cases c21 : ((x4_1 ++ t172) ++ t173).size + t174.size ≤ 9223372036854775807
           · rw [if_pos c21] at H; have c21b0 := eq_true c21; have c21b1 : decide (((x4_1 ++ t172) ++ t173).size + t174.size ≤ 9223372036854775807) = true := decide_eq_true c21
             try have c21b2 : (9223372036854775807 < ((x4_1 ++ t172) ++ t173).size + t174.size) = False := eq_false (Nat.not_lt.2 c21)
             try (have c21b3 := c21b2; simp only [ByteArray.size_append] at c21b3)
             replace H := Option.bind_eq_some_iff.mp H; obtain ⟨t175, A220, H⟩ := H; replace H : (if (((x4_1 ++ t172) ++ t173) ++ t174).size + t175.size ≤ 9223372036854775807 then (spec_ManifestText.l1 k1 ((((x4_1 ++ t172) ++ t173) ++ t174) ++ t175) 0 l0_0 a0_1 a0_2 a0_3 l0_4) else (none)) = some (r1, r2) := H; have A22 := Aside0.mk A220; clear A220; by_cases c23 : (((x4_1 ++ t172) ++ t173) ++ t174).size + t175.size ≤ 9223372036854775807
             · rw [if_pos c23] at H; have c23b0 := eq_true c23; have c23b1 : decide ((((x4_1 ++ t172) ++ t173) ++ t174).size + t175.size ≤ 9223372036854775807) = true := decide_eq_true c23
               try have c23b2 : (9223372036854775807 < (((x4_1 ++ t172) ++ t173) ++ t174).size + t175.size) = False := eq_false (Nat.not_lt.2 c23)
               try (have c23b3 := c23b2; simp only [ByteArray.size_append] at c23b3)
               have H' := Aside0.mk H; clear H; have hcz24_0 := bc0 BK167; have hcz24_1 := bc1 BK167; have hcz24_2 := bc2 BK167; have hcz24_3 := bc3 BK167; have hcz24_4 := bc4 BK167; have hfz24_0 := bf BK167 0; have hfz24_1 := bf BK167 1; have hfz24_2 := bf BK167 2; have hfz24_3 := bf BK167 3; have hfz24_4 := bf BK167 4
               try go_wp2
               replace BK167 := Aside0.mk (blk_drew BK167.out); replace HB := Aside0.mk (below_drew1 HB.out); refine start_ (n := 19) (S := fun w' => w'.cell? ⟨gb167, 0, none⟩ = some (.slice A0_0 l0_0.length c0_0) ∧ w'.cell? ⟨gb167, 1, none⟩ = some (.int .i64 a0_1) ∧ w'.cell? ⟨gb167, 2, none⟩ = some (.int .i64 a0_2) ∧ w'.cell? ⟨gb167, 3, none⟩ = some (.int .i64 a0_3) ∧ w'.cell? ⟨gb167, 4, none⟩ = some (.slice A0_4 l0_4.length c0_4)) (ds := []) #[false, false, false, false, false, false, false, false, false, false, false, false, false, false, false, false, false, false, false] (by kernel_rfl) rfl rfl ⟨bc0 BK167, bc1 BK167, bc2 BK167, bc3 BK167, bc4 BK167⟩ (fun hHeld => ?_); refine with_tabW spec_ManifestText.tab8 spec_ManifestText.bits8 (fun HT_ HW_ => ?_)
               generalize wr.drew = w25 at BK167 HB hHeld ⊢; refine pure_ (i := 0) (N := some 29) (v := ?_) (a' := ?_) #[true, false, false, false, false, false, false, false, false, false, false, false, false, false, false, false, false, false, false] rfl rfl (any_of HT_.out (by kernel_rfl)) (fun _ _ _ h => h) (Or.inl ⟨by rfl, ?_⟩) ?_ ?_
               rotate_left
               · intro w'; go_simp; with_reducible rfl
               rotate_left
               · simp only [Act.put, ps1, ps2, ps3, i64_w, i32_w]; rfl
               refine pure_ (i := 1) (N := some 30) (v := ?_) (a' := ?_) #[true, true, false, false, false, false, false, false, false, false, false, false, false, false, false, false, false, false, false] rfl rfl (any_of HT_.out (by kernel_rfl)) (fun _ _ _ h => h) (Or.inl ⟨by rfl, ?_⟩) ?_ ?_
               rotate_left
               · intro w'; go_simp; with_reducible rfl
               rotate_left
               · simp only [Act.put, ps1, ps2, ps3, i64_w, i32_w]; rfl
               refine pure_ (i := 5) (N := some 34) (v := ?_) (a' := ?_) #[true, true, false, false, false, true, false, false, false, false, false, false, false, false, false, false, false, false, false] rfl rfl (any_of HT_.out (by kernel_rfl)) (fun _ _ _ h => h) (Or.inl ⟨by rfl, ?_⟩) ?_ ?_
               rotate_left
               · intro w'; go_simp; with_reducible rfl
               rotate_left
               · simp only [Act.put, ps1, ps2, ps3, i64_w, i32_w]; rfl
               refine pure_ (i := 9) (N := some 38) (v := ?_) (a' := ?_) #[true, true, false, false, false, true, false, false, false, true, false, false, false, false, false, false, false, false, false] rfl rfl (any_of HT_.out (by kernel_rfl)) (fun _ _ _ h => h) (Or.inl ⟨by rfl, ?_⟩) ?_ ?_
               rotate_left
               · intro w'; go_simp; with_reducible rfl
               rotate_left
               · simp only [Act.put, ps1, ps2, ps3, i64_w, i32_w]; rfl
               refine pure_ (i := 13) (N := some 42) (v := ?_) (a' := ?_) #[true, true, false, false, false, true, false, false, false, true, false, false, false, true, false, false, false, false, false] rfl rfl (any_of HT_.out (by kernel_rfl)) (fun _ _ _ h => h) (Or.inl ⟨by rfl, ?_⟩) ?_ ?_
               rotate_left
               · intro w'; go_simp; with_reducible rfl
               rotate_left
               · simp only [Act.put, ps1, ps2, ps3, i64_w, i32_w]; rfl
               refine take_ (i := 2) (N := some 31) (v := ?_) (a' := ?_) #[true, true, true, false, false, true, false, false, false, true, false, false, false, true, false, false, false, false, false] rfl rfl (take_ofW HT_.out HW_.out (by kernel_rfl)) (fun _ _ _ h => h) (Or.inl ⟨by rfl, ?_⟩) hHeld ?_ ?_
               rotate_left
               · rintro w' ⟨s0, s1, s2, s3, s4⟩; go_simp; with_reducible rfl
               rotate_left
               · simp only [Act.put, ps1, ps2, ps3, i64_w, i32_w]; rfl
               refine take_ (i := 6) (N := some 35) (v := ?_) (a' := ?_) #[true, true, true, false, false, true, true, false, false, true, false, false, false, true, false, false, false, false, false] rfl rfl (take_ofW HT_.out HW_.out (by kernel_rfl)) (fun _ _ _ h => h) (Or.inl ⟨by rfl, ?_⟩) hHeld ?_ ?_
               rotate_left
               · rintro w' ⟨s0, s1, s2, s3, s4⟩; go_simp; with_reducible rfl
               rotate_left
               · simp only [Act.put, ps1, ps2, ps3, i64_w, i32_w]; rfl
               refine take_ (i := 10) (N := some 39) (v := ?_) (a' := ?_) #[true, true, true, false, false, true, true, false, false, true, true, false, false, true, false, false, false, false, false] rfl rfl (take_ofW HT_.out HW_.out (by kernel_rfl)) (fun _ _ _ h => h) (Or.inl ⟨by rfl, ?_⟩) hHeld ?_ ?_
               rotate_left
               · rintro w' ⟨s0, s1, s2, s3, s4⟩; go_simp; with_reducible rfl
               rotate_left
               · simp only [Act.put, ps1, ps2, ps3, i64_w, i32_w]; rfl
               refine take_ (i := 14) (N := some 43) (v := ?_) (a' := ?_) #[true, true, true, false, false, true, true, false, false, true, true, false, false, true, true, false, false, false, false] rfl rfl (take_ofW HT_.out HW_.out (by kernel_rfl)) (fun _ _ _ h => h) (Or.inl ⟨by rfl, ?_⟩) hHeld ?_ ?_
               rotate_left
               · rintro w' ⟨s0, s1, s2, s3, s4⟩; go_simp; with_reducible rfl
               rotate_left
               · simp only [Act.put, ps1, ps2, ps3, i64_w, i32_w]; rfl
               refine pure_ (i := 15) (N := some 44) (v := ?_) (a' := ?_) #[true, true, true, false, false, true, true, false, false, true, true, false, false, true, true, true, false, false, false] rfl rfl (any_of HT_.out (by kernel_rfl)) (fun _ _ _ h => h) (Or.inl ⟨by rfl, ?_⟩) ?_ ?_
               rotate_left
               · intro w'; go_simp; with_reducible rfl
               rotate_left
               · simp only [Act.put, ps1, ps2, ps3, i64_w, i32_w]; rfl
               refine one_ (i := 3) (N := some 32) #[true, true, true, true, false, true, true, false, false, true, true, false, false, true, true, true, false, false, false] rfl rfl (one_of HT_.out (by kernel_rfl)) (by decide) (fun K hK => ?_)
               refine goes_ Try.func43 (by kernel_rfl) rfl #[.int .i64 a0_1] (by rfl) rfl rfl t1_ ?_
               with_reducible refine (spec_l01Var.calls k1 a0_1 t172 _ A16.out).mono ?_
               rintro e w26 ⟨rfl, hb⟩; refine ⟨_, rfl, ?_⟩
               replace BK167 := bkN BK167 hb; replace HB := bS t7_ hb
               (try clear hb)
               (try clear hb2)
               (try clear hk)
               (try clear hi)
               refine hK.out _ _ ⟨bc0 BK167, bc1 BK167, bc2 BK167, bc3 BK167, bc4 BK167⟩ (fun hHeld => ?_)
               clear hK K; refine norm_ (a' := ?_) ?_ ?_
               rotate_left
               · show Act.put _ (some 32) _ = _
                 simp only [Act.put, ps1, ps2, ps3, i64_w, i32_w]; rfl
               refine pure_ (i := 4) (N := some 33) (v := ?_) (a' := ?_) #[true, true, true, true, true, true, true, false, false, true, true, false, false, true, true, true, false, false, false] rfl rfl (any_of HT_.out (by kernel_rfl)) (fun _ _ _ h => h) (Or.inl ⟨by rfl, ?_⟩) ?_ ?_
               rotate_left
               · intro w'; go_simp; with_reducible rfl
               rotate_left
               · simp only [Act.put, ps1, ps2, ps3, i64_w, i32_w]; rfl
               refine one_ (i := 7) (N := some 36) #[true, true, true, true, true, true, true, true, false, true, true, false, false, true, true, true, false, false, false] rfl rfl (one_of HT_.out (by kernel_rfl)) (by decide) (fun K hK => ?_)
               refine goes_ Try.func43 (by kernel_rfl) rfl #[.int .i64 a0_2] (by rfl) rfl rfl t1_ ?_
               with_reducible refine (spec_l01Var.calls k1 a0_2 t173 _ A18.out).mono ?_
               rintro e w27 ⟨rfl, hb⟩; refine ⟨_, rfl, ?_⟩
               replace BK167 := bkN BK167 hb; replace HB := bS t7_ hb
               (try clear hb)
               (try clear hb2)
               (try clear hk)
               (try clear hi)
               refine hK.out _ _ ⟨bc0 BK167, bc1 BK167, bc2 BK167, bc3 BK167, bc4 BK167⟩ (fun hHeld => ?_)
               clear hK K; refine norm_ (a' := ?_) ?_ ?_
               rotate_left
               · show Act.put _ (some 36) _ = _
                 simp only [Act.put, ps1, ps2, ps3, i64_w, i32_w]; rfl
               refine pure_ (i := 8) (N := some 37) (v := ?_) (a' := ?_) #[true, true, true, true, true, true, true, true, true, true, true, false, false, true, true, true, false, false, false] rfl rfl (any_of HT_.out (by kernel_rfl)) (fun _ _ _ h => h) (Or.inl ⟨by rfl, ?_⟩) ?_ ?_
               rotate_left
               · intro w'; go_simp; with_reducible rfl
               rotate_left
               · simp only [Act.put, ps1, ps2, ps3, i64_w, i32_w]; rfl
               refine one_ (i := 11) (N := some 40) #[true, true, true, true, true, true, true, true, true, true, true, true, false, true, true, true, false, false, false] rfl rfl (one_of HT_.out (by kernel_rfl)) (by decide) (fun K hK => ?_)
               refine goes_ Try.func43 (by kernel_rfl) rfl #[.int .i64 a0_3] (by rfl) rfl rfl t1_ ?_
               with_reducible refine (spec_l01Var.calls k1 a0_3 t174 _ A20.out).mono ?_
               rintro e w28 ⟨rfl, hb⟩; refine ⟨_, rfl, ?_⟩
               replace BK167 := bkN BK167 hb; replace HB := bS t7_ hb
               (try clear hb)
               (try clear hb2)
               (try clear hk)
               (try clear hi)
               refine hK.out _ _ ⟨bc0 BK167, bc1 BK167, bc2 BK167, bc3 BK167, bc4 BK167⟩ (fun hHeld => ?_)
               clear hK K; refine norm_ (a' := ?_) ?_ ?_
               rotate_left
               · show Act.put _ (some 40) _ = _
                 simp only [Act.put, ps1, ps2, ps3, i64_w, i32_w]; rfl
               refine pure_ (i := 12) (N := some 41) (v := ?_) (a' := ?_) #[true, true, true, true, true, true, true, true, true, true, true, true, true, true, true, true, false, false, false] rfl rfl (any_of HT_.out (by kernel_rfl)) (fun _ _ _ h => h) (Or.inl ⟨by rfl, ?_⟩) ?_ ?_
               rotate_left
               · intro w'; go_simp; with_reducible rfl
               rotate_left
               · simp only [Act.put, ps1, ps2, ps3, i64_w, i32_w]; rfl
               refine one_ (i := 16) (N := some 45) #[true, true, true, true, true, true, true, true, true, true, true, true, true, true, true, true, true, false, false] rfl rfl (one_of HT_.out (by kernel_rfl)) (by decide) (fun K hK => ?_)
               refine goes_ Try.func43 (by kernel_rfl) rfl #[.int .i64 (l0_4.length : Int)] (by rfl) rfl rfl t1_ ?_
               with_reducible refine (spec_l01Var.calls k1 (l0_4.length : Int) t175 _ A22.out).mono ?_
               rintro e w29 ⟨rfl, hb⟩; refine ⟨_, rfl, ?_⟩
               replace BK167 := bkN BK167 hb; replace HB := bS t7_ hb
               (try clear hb)
               (try clear hb2)
               (try clear hk)
               (try clear hi)
               refine hK.out _ _ ⟨bc0 BK167, bc1 BK167, bc2 BK167, bc3 BK167, bc4 BK167⟩ (fun hHeld => ?_)
               clear hK K; refine norm_ (a' := ?_) ?_ ?_
               rotate_left
               · show Act.put _ (some 45) _ = _
                 simp only [Act.put, ps1, ps2, ps3, i64_w, i32_w]; rfl
               refine pure_ (i := 17) (N := some 46) (v := ?_) (a' := ?_) #[true, true, true, true, true, true, true, true, true, true, true, true, true, true, true, true, true, true, false] rfl rfl (any_of HT_.out (by kernel_rfl)) (fun _ _ _ h => h) (Or.inl ⟨by rfl, ?_⟩) ?_ ?_
               rotate_left
               · intro w'; go_simp; with_reducible rfl
               rotate_left
               · simp only [Act.put, ps1, ps2, ps3, i64_w, i32_w]; rfl
               refine pure_ (i := 18) (N := some 4) (v := ?_) (a' := ?_) #[true, true, true, true, true, true, true, true, true, true, true, true, true, true, true, true, true, true, true] rfl rfl (any_of HT_.out (by kernel_rfl)) (fun _ _ _ h => h) (Or.inl ⟨by rfl, ?_⟩) ?_ ?_
               rotate_left
               · intro w'; go_simp; with_reducible rfl
               rotate_left
               · simp only [Act.put, ps1, ps2, ps3, i64_w, i32_w]; rfl
               refine done_ (done_of HT_.out (by kernel_rfl)) ?_
               try go_wp2
               go_loopg [4, 6] k1 (fun kq v4 v6 w' => ∃ (x4_2 : ByteArray) (x6_2 : Int), v4 = .string x4_2 ∧ v6 = .int .i64 x6_2 ∧ Aside0 (spec_ManifestText.l1 kq x4_2 x6_2 l0_0 a0_1 a0_2 a0_3 l0_4 = some (r1, r2)) ∧ Aside0 (kq ≤ k1) ∧ Aside0 (w'.heap[gb167]? = some (.cells #[(.slice A0_0 l0_0.length c0_0), .int .i64 a0_1, .int .i64 a0_2, .int .i64 a0_3, (.slice A0_4 l0_4.length c0_4)] 36 (0, 0))) ∧ Aside0 (Below w.heap.size w w'))
               case atStart => exact ⟨((((x4_1 ++ t172) ++ t173) ++ t174) ++ t175), (0), t6_, t6_, H', ⟨Nat.le_refl _⟩, ⟨zN BK167⟩, ⟨t7_⟩⟩
               case round =>
                clear H'
                try clear c1
                try clear p1
                try clear q1
                try clear hx1
                try clear c2
                try clear p2
                try clear c3
                try clear c4
                try clear p6
                try clear c10
                try clear c10b0
                try clear c11
                try clear c11b0
                try clear c13
                try clear c13b0
                try clear c13b1
                try clear c13b2
                try clear c17
                try clear c17b0
                try clear c17b1
                try clear c17b2
                try clear p17
                try clear q17
                try clear hx17
                try clear c19
                try clear c19b0
                try clear c19b1
                try clear c19b2
                try clear c21
                try clear c21b0
                try clear c21b1
                try clear c21b2
                try clear c23
                try clear c23b0
                try clear c23b1
                try clear c23b2
                try clear hcz14_0
                try clear hcz14_1
                try clear hcz14_2
                try clear hcz14_3
                try clear hcz14_4
                try clear hcz24_0
                try clear hcz24_1
                try clear hcz24_2
                try clear hcz24_3
                try clear hcz24_4
                try clear hcz6_0
                try clear hcz6_1
                try clear hcz6_2
                try clear hcz6_3
                try clear hcz6_4
                try clear hcz8_0
                try clear hcz8_1
                try clear hcz8_2
                try clear hcz8_3
                try clear hcz8_4
                try clear hfz14_0
                try clear hfz14_1
                try clear hfz14_2
                try clear hfz14_3
                try clear hfz14_4
                try clear hfz24_0
                try clear hfz24_1
                try clear hfz24_2
                try clear hfz24_3
                try clear hfz24_4
                try clear hfz6_0
                try clear hfz6_1
                try clear hfz6_2
                try clear hfz6_3
                try clear hfz6_4
                try clear hfz8_0
                try clear hfz8_1
                try clear hfz8_2
                try clear hfz8_3
                try clear hfz8_4
                try clear hx170_0
                try clear p170
                try clear p2
                try clear q170
                obtain ⟨x4_2, x6_2, rfl, rfl, HA, HK2, BK167, HB⟩ := hrel
                cases gk with
                | zero => exact absurd HA.out (by simp [spec_ManifestText.l1])
                | succ k2 =>
                 have H := HA.out; clear HA; simp only [spec_ManifestText.l1] at H; by_cases c30 : x6_2 < (l0_4.length : Int)
                 · rw [if_pos c30] at H; have c30b0 : decide (x6_2 < (l0_4.length : Int)) = true := decide_eq_true c30; clear c30; by_cases c31 : 0 ≤ x6_2
                   · rw [if_pos c31] at H; have c31b0 : decide (0 ≤ x6_2) = true := decide_eq_true c31; clear c31; replace H := Option.bind_eq_some_iff.mp H; obtain ⟨t177, A320, H⟩ := H; replace H : (if x4_2.size + t177.size ≤ 9223372036854775807 then (spec_ManifestText.l1 k2 (x4_2 ++ t177) (wrap64 (x6_2 + 1)) l0_0 a0_1 a0_2 a0_3 l0_4) else (none)) = some (r1, r2) := H; have A32 := Aside0.mk A320; clear A320; by_cases c33 : x4_2.size + t177.size ≤ 9223372036854775807
                     · rw [if_pos c33] at H; have c33b0 := eq_true c33; have c33b1 : decide (x4_2.size + t177.size ≤ 9223372036854775807) = true := decide_eq_true c33
                       try have c33b2 : (9223372036854775807 < x4_2.size + t177.size) = False := eq_false (Nat.not_lt.2 c33)
                       have H' := Aside0.mk H; clear H; have hcz34_0 := bc0 BK167; have hcz34_1 := bc1 BK167; have hcz34_2 := bc2 BK167; have hcz34_3 := bc3 BK167; have hcz34_4 := bc4 BK167; have hfz34_0 := bf BK167 0; have hfz34_1 := bf BK167 1; have hfz34_2 := bf BK167 2; have hfz34_3 := bf BK167 3; have hfz34_4 := bf BK167 4; have p176 : 0 ≤ (x6_2 : Int) := of_decide_eq_true t3_; have q176 : x6_2 < (l0_4.length : Int) := of_decide_eq_true t3_; obtain ⟨ad176, e176, hx176_0⟩ := Kd.at_int HR0_4.out x6_2 p176 q176
                       cases e176
                       replace hx176_0 := cW HB hx176_0; replace p176 := eq_true p176; replace q176 := eq_true q176
                       go_wp2_with (first | ((with_reducible refine gate_callee (f := 43) rfl ?_); refine goesL_ (some 60) rfl rfl Try.func43 (by kernel_rfl) rfl #[.int .i64 (rd l0_4 x6_2)] rfl t1_ ?_; (with_reducible refine (spec_l01Var.calls k2 (rd l0_4 x6_2) t177 _ A32.out).mono ?_); rintro e w35 ⟨rfl, hb⟩; refine ⟨_, rfl, ?_⟩; replace BK167 := bkN BK167 hb; replace HB := bS t7_ hb; (try clear hb)))
                       go_roundg k2
                       case measure => have := HK1.out; have := HK2.out; omega
                       case rel => exact ⟨(x4_2 ++ t177), (wrap64 (x6_2 + 1)), t6_, t6_, H', ⟨by have := HK1.out; have := HK2.out; omega⟩, ⟨zN BK167⟩, ⟨t7_⟩⟩
                     · rw [if_neg c33] at H; exact absurd H (by simp)
                   · rw [if_neg c31] at H; exact absurd H (by simp)
                 · rw [if_neg c30] at H; have c30b0 : decide (x6_2 < (l0_4.length : Int)) = false := decide_eq_false c30; clear c30; replace H := Option.bind_eq_some_iff.mp H; obtain ⟨⟨t178, t179⟩, A360, H⟩ := H; replace H : (some (t178, t179)) = some (r1, r2) := H; have A36 := Aside0.mk A360; clear A360; simp only [Option.some.injEq, Prod.mk.injEq] at H; obtain ⟨rfl, rfl⟩ := H; have hcz37_0 := bc0 BK167; have hcz37_1 := bc1 BK167; have hcz37_2 := bc2 BK167; have hcz37_3 := bc3 BK167; have hcz37_4 := bc4 BK167; have hfz37_0 := bf BK167 0; have hfz37_1 := bf BK167 1; have hfz37_2 := bf BK167 2; have hfz37_3 := bf BK167 3; have hfz37_4 := bf BK167 4
                   go_wp2_with (first | ((with_reducible refine gate_callee (f := 44) rfl ?_); refine goesL_ (some 63) rfl rfl Try.func44 (by kernel_rfl) rfl #[.string x4_2] rfl t1_ ?_; (with_reducible refine (spec_Sealed.calls k2 x4_2 t178 t179 _ A36.out).mono ?_); rintro e w38 ⟨rfl, hb⟩; refine ⟨_, rfl, ?_⟩; replace BK167 := bkN BK167 hb; replace HB := bS t7_ hb; (try clear hb)))
                   go_ret2
                   exact ⟨by first | rfl | (simp [errW_none, errW_some] <;> rfl) | (simp [*, errW_none, errW_some] <;> rfl), t7_⟩
             · rw [if_neg c23] at H; exact absurd H (by simp)
           · rw [if_neg c21] at H; exact absurd H (by simp)
         · rw [if_neg c19] at H; exact absurd H (by simp)
       · rw [if_neg c17] at H; exact absurd H (by simp)
 · replace c3 := Bool.eq_false_iff.mpr c3; subst c3; have H1 : (some ((⟨#[]⟩ : ByteArray), false)) = some (r1, r2) := by rw [if_neg (show ¬ (false = true) by decide)] at H; exact H
   clear H; have H := H1; clear H1; simp only [Option.some.injEq, Prod.mk.injEq] at H; obtain ⟨rfl, rfl⟩ := H; go_enter Try.func17, Try.ntmps17
   go_wp2_with (first | ((with_reducible refine gate_dst (N := 1) rfl ?_); refine boxE (N := 1) (cs := #[.slice A0_0 l0_0.length c0_0, .int .i64 a0_1, .int .i64 a0_2, .int .i64 a0_3, .slice A0_4 l0_4.length c0_4]) (t := 36) (h := ?_); intro gb167 hg w39 hbox hb; have BK167 := Aside0.mk (hbox); have GW167 := Aside0.mk ((t5_ : w.heap.size ≤ gb167)); have GE167 := GW167; replace HB := bS t0_ hb; clear hb hbox hg; have hcz40_0 := bc0 BK167; have hcz40_1 := bc1 BK167; have hcz40_2 := bc2 BK167; have hcz40_3 := bc3 BK167; have hcz40_4 := bc4 BK167; have hfz40_0 := bf BK167 0; have hfz40_1 := bf BK167 1; have hfz40_2 := bf BK167 2; have hfz40_3 := bf BK167 3; have hfz40_4 := bf BK167 4) | ((with_reducible refine gate_callee (f := 23) rfl ?_); refine goesL_ (some 8) rfl rfl Try.func23 (by kernel_rfl) rfl #[.agg #[.slice A0_0 l0_0.length c0_0, .int .i64 a0_1, .int .i64 a0_2, .int .i64 a0_3, .slice A0_4 l0_4.length c0_4]] rfl t1_ ?_; (with_reducible refine (spec_ManifestOk.calls k _ _ l0_0 a0_1 a0_2 a0_3 _ _ l0_4 false _ ?side1 ?side2 ?side3 ?side4 A2.out).mono ?_); (case side1 => exact cB HR0_0 HB); (case side2 => exact HC0_0.out); (case side3 => exact cB HR0_4 HB); (case side4 => exact HC0_4.out); rintro e w41 ⟨rfl, hb⟩; refine ⟨_, rfl, ?_⟩; replace BK167 := bkN BK167 hb; replace HB := bS t7_ hb; (try clear hb)))
   go_ret2
   exact ⟨by first | rfl | (simp [errW_none, errW_some] <;> rfl) | (simp [*, errW_none, errW_some] <;> rfl), t7_⟩

end Go.Proofs.Ytpnncgfmihjlkaa.QFnExactReadManifest
