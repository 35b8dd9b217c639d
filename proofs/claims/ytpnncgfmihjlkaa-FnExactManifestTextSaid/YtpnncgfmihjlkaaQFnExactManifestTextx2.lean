-- By a program of this session, over the kit's print.
import Derived.Test.YtpnncgfmihjlkaaQFnExactManifestTextx0
import Derived.Test.YtpnncgfmihjlkaaQFnExactManifestTextx1
namespace Go.Proofs.Ytpnncgfmihjlkaa.QFnExactManifestText
open Go.RowKit Go.Proofs.YtpnncgfmihjlkaaW.PrintWords Go.Proofs.YtpnncgfmihjlkaaW.PrintLast Go.Proofs.YtpnncgfmihjlkaaW.PrintMore
attribute [local go_sem] max2_int min2_int max_two min_two max_three min_three max_four min_four   -- for this text's walks alone
set_option linter.unusedVariables false
set_option linter.unusedSimpArgs false

/-! ### spec_ManifestText: function 17 -/
mutual
def spec_ManifestText.l0 : Nat → ByteArray → Int → List Int → Int → Int → Int → List Int → Option (ByteArray × Bool)
 | 0, _, _, _, _, _, _, _ => none
 | k + 1, x4, x5, x133000, x133001, x133002, x133003, x133004 => if x5 < (x133000.length : Int) then (if 0 ≤ x5 then ((spec_l01Var.f k (rd x133000 x5)).bind fun t136 => (if x4.size + t136.size ≤ 9223372036854775807 then (spec_ManifestText.l0 k (x4 ++ t136) (wrap64 (x5 + 1)) x133000 x133001 x133002 x133003 x133004) else (none))) else (none)) else ((spec_l01Var.f k x133001).bind fun t137 => (if x4.size + t137.size ≤ 9223372036854775807 then ((spec_l01Var.f k x133002).bind fun t138 => (if (x4 ++ t137).size + t138.size ≤ 9223372036854775807 then ((spec_l01Var.f k x133003).bind fun t139 => (if ((x4 ++ t137) ++ t138).size + t139.size ≤ 9223372036854775807 then ((spec_l01Var.f k (x133004.length : Int)).bind fun t140 => (if (((x4 ++ t137) ++ t138) ++ t139).size + t140.size ≤ 9223372036854775807 then (spec_ManifestText.l1 k ((((x4 ++ t137) ++ t138) ++ t139) ++ t140) 0 x133000 x133001 x133002 x133003 x133004) else (none))) else (none))) else (none))) else (none)))
def spec_ManifestText.l1 : Nat → ByteArray → Int → List Int → Int → Int → Int → List Int → Option (ByteArray × Bool)
 | 0, _, _, _, _, _, _, _ => none
 | k + 1, x4, x6, x133000, x133001, x133002, x133003, x133004 => if x6 < (x133004.length : Int) then (if 0 ≤ x6 then ((spec_l01Var.f k (rd x133004 x6)).bind fun t142 => (if x4.size + t142.size ≤ 9223372036854775807 then (spec_ManifestText.l1 k (x4 ++ t142) (wrap64 (x6 + 1)) x133000 x133001 x133002 x133003 x133004) else (none))) else (none)) else ((spec_Sealed.f k x4).bind fun bt143 => (some (bt143.1, bt143.2)))
end
def spec_ManifestText.f (k : Nat) (l0_0 : List Int) (a0_1 : Int) (a0_2 : Int) (a0_3 : Int) (l0_4 : List Int) : Option (ByteArray × Bool) := (spec_ManifestOk.f k l0_0 a0_1 a0_2 a0_3 l0_4).bind fun t133 => (if t133 = true then ((spec_l01Var.f k (l0_0.length : Int)).bind fun t134 => (spec_ManifestText.l0 k t134 0 l0_0 a0_1 a0_2 a0_3 l0_4)) else (some ((⟨#[]⟩ : ByteArray), false)))
theorem spec_ManifestText.mono_l : ∀ k, (∀ y0 y1 y2 y3 y4 y5 y6, LeO (spec_ManifestText.l0 k y0 y1 y2 y3 y4 y5 y6) (spec_ManifestText.l0 (k + 1) y0 y1 y2 y3 y4 y5 y6)) ∧ (∀ y0 y1 y2 y3 y4 y5 y6, LeO (spec_ManifestText.l1 k y0 y1 y2 y3 y4 y5 y6) (spec_ManifestText.l1 (k + 1) y0 y1 y2 y3 y4 y5 y6))
 | 0 => ⟨fun _ _ _ _ _ _ _ r h => by simp [spec_ManifestText.l0] at h, fun _ _ _ _ _ _ _ r h => by simp [spec_ManifestText.l1] at h⟩
 | k + 1 => by
  obtain ⟨ih0, ih1⟩ := spec_ManifestText.mono_l k; refine ⟨?_, ?_⟩
  · intro y0 y1 y2 y3 y4 y5 y6
    unfold spec_ManifestText.l0
    repeat' first
    | (with_reducible exact ih0 _ _ _ _ _ _ _)
    | (with_reducible exact ih1 _ _ _ _ _ _ _)
    | (with_reducible exact spec_ManifestOk.mono _ _ _ _ _ _)
    | (with_reducible exact spec_Sealed.mono _ _)
    | (with_reducible exact spec_l01Var.mono _ _)
    | (with_reducible exact LeO.refl _)
    | (with_reducible exact LeO.none _)
    | (with_reducible refine LeO.ite ?_ ?_)
    | (with_reducible refine LeO.bind ?_ (fun _ => ?_))
    | exact ih0 _ _ _ _ _ _ _
    | exact ih1 _ _ _ _ _ _ _
    | exact spec_ManifestOk.mono _ _ _ _ _ _
    | exact spec_Sealed.mono _ _
    | exact spec_l01Var.mono _ _
    | exact LeO.none _
    | refine LeO.ite ?_ ?_
    | refine LeO.bind ?_ (fun _ => ?_)
  · intro y0 y1 y2 y3 y4 y5 y6
    unfold spec_ManifestText.l1
    repeat' first
    | (with_reducible exact ih0 _ _ _ _ _ _ _)
    | (with_reducible exact ih1 _ _ _ _ _ _ _)
    | (with_reducible exact spec_ManifestOk.mono _ _ _ _ _ _)
    | (with_reducible exact spec_Sealed.mono _ _)
    | (with_reducible exact spec_l01Var.mono _ _)
    | (with_reducible exact LeO.refl _)
    | (with_reducible exact LeO.none _)
    | (with_reducible refine LeO.ite ?_ ?_)
    | (with_reducible refine LeO.bind ?_ (fun _ => ?_))
    | exact ih0 _ _ _ _ _ _ _
    | exact ih1 _ _ _ _ _ _ _
    | exact spec_ManifestOk.mono _ _ _ _ _ _
    | exact spec_Sealed.mono _ _
    | exact spec_l01Var.mono _ _
    | exact LeO.none _
    | refine LeO.ite ?_ ?_
    | refine LeO.bind ?_ (fun _ => ?_)
theorem spec_ManifestText.mono : ∀ a0 a1 a2 a3 a4 k, LeO (spec_ManifestText.f k a0 a1 a2 a3 a4) (spec_ManifestText.f (k + 1) a0 a1 a2 a3 a4) := by
 intro a0 a1 a2 a3 a4 k; obtain ⟨ih0, ih1⟩ := spec_ManifestText.mono_l k
 unfold spec_ManifestText.f
 repeat' first
  | (with_reducible exact ih0 _ _ _ _ _ _ _)
  | (with_reducible exact ih1 _ _ _ _ _ _ _)
  | (with_reducible exact spec_ManifestOk.mono _ _ _ _ _ _)
  | (with_reducible exact spec_Sealed.mono _ _)
  | (with_reducible exact spec_l01Var.mono _ _)
  | (with_reducible exact LeO.refl _)
  | (with_reducible exact LeO.none _)
  | (with_reducible refine LeO.ite ?_ ?_)
  | (with_reducible refine LeO.bind ?_ (fun _ => ?_))
  | exact ih0 _ _ _ _ _ _ _
  | exact ih1 _ _ _ _ _ _ _
  | exact spec_ManifestOk.mono _ _ _ _ _ _
  | exact spec_Sealed.mono _ _
  | exact spec_l01Var.mono _ _
  | exact LeO.none _
  | refine LeO.ite ?_ ?_
  | refine LeO.bind ?_ (fun _ => ?_)
def spec_ManifestText.T8 : Bool × List (List Nat × List Nat) := (true, [([], []), ([], []), ([1], [1]), ([2], [2]), ([0, 3], [0, 3]), ([], []), ([5], [5]), ([6, 3], [6]), ([4, 7], [4, 7]), ([], []), ([9], [9]), ([10, 7], [10]), ([8, 11], [8, 11]), ([], []), ([13], [13]), ([14], [14]), ([15, 11], [15]), ([12, 16], [12, 16]), ([17, 16, 0, 1, 2, 3, 4, 5, 6, 7, 8, 9, 10, 11, 12, 13, 14, 15, 16, 17], [0, 17])])
def spec_ManifestText.B8 : List Nat := [0, 0, 2, 6, 15, 0, 32, 110, 255, 0, 512, 1774, 4095, 0, 8192, 24576, 61166, 131071, 262143]
theorem spec_ManifestText.tab8 : rtab .any (opsOf Try.f17 8) = spec_ManifestText.T8 := by kernel_rfl
theorem spec_ManifestText.bits8 : waitsOk spec_ManifestText.T8.2 spec_ManifestText.B8 = true := by kernel_rfl
set_option maxHeartbeats 8000000 in
set_option maxRecDepth 100000 in
theorem spec_ManifestText.calls (k : Nat) (A0_0 : Option Addr) (c0_0 : Nat) (l0_0 : List Int) (a0_1 : Int) (a0_2 : Int) (a0_3 : Int) (A0_4 : Option Addr) (c0_4 : Nat) (l0_4 : List Int) (r1 : ByteArray) (r2 : Bool) (w : World) (hr0_0 : Kd.C (Kd.int .i64) w A0_0 l0_0.length l0_0) (hc0_0 : l0_0.length ≤ c0_0) (hr0_4 : Kd.C (Kd.int .i64) w A0_4 l0_4.length l0_4) (hc0_4 : l0_4.length ≤ c0_4) (h : spec_ManifestText.f k l0_0 a0_1 a0_2 a0_3 l0_4 = some (r1, r2)) :
 Calls Try.prog 17 #[.agg #[.slice A0_0 l0_0.length c0_0, .int .i64 a0_1, .int .i64 a0_2, .int .i64 a0_3, .slice A0_4 l0_4.length c0_4]] w fun e w' => e = .returned (.tuple #[.string r1, .bool r2]) ∧ Below w.heap.size w w' := by
 have hu36 := Try.underlying36; have HR0_0 := Aside0.mk hr0_0; have HC0_0 := Aside0.mk hc0_0; clear hr0_0 hc0_0; have HR0_4 := Aside0.mk hr0_4; have HC0_4 := Aside0.mk hc0_4; clear hr0_4 hc0_4; have HB := Aside0.mk (Below.refl w.heap.size w); have H : ((spec_ManifestOk.f k l0_0 a0_1 a0_2 a0_3 l0_4).bind fun t133 => (if t133 = true then ((spec_l01Var.f k (l0_0.length : Int)).bind fun t134 => (spec_ManifestText.l0 k t134 0 l0_0 a0_1 a0_2 a0_3 l0_4)) else (some ((⟨#[]⟩ : ByteArray), false)))) = some (r1, r2) := h; clear h; replace H := Option.bind_eq_some_iff.mp H; obtain ⟨t133, A20, H⟩ := H; replace H : (if t133 = true then ((spec_l01Var.f k (l0_0.length : Int)).bind fun t134 => (spec_ManifestText.l0 k t134 0 l0_0 a0_1 a0_2 a0_3 l0_4)) else (some ((⟨#[]⟩ : ByteArray), false))) = some (r1, r2) := H; have A2 := Aside0.mk A20; clear A20; by_cases c3 : t133 = true
 · subst c3; have H1 : ((spec_l01Var.f k (l0_0.length : Int)).bind fun t134 => (spec_ManifestText.l0 k t134 0 l0_0 a0_1 a0_2 a0_3 l0_4)) = some (r1, r2) := by rw [if_pos rfl] at H; exact H
   clear H; have H := H1; clear H1; replace H := Option.bind_eq_some_iff.mp H; obtain ⟨t134, A40, H⟩ := H; replace H : (spec_ManifestText.l0 k t134 0 l0_0 a0_1 a0_2 a0_3 l0_4) = some (r1, r2) := H; have A4 := Aside0.mk A40; clear A40; have H' := Aside0.mk H; clear H; go_enter Try.func17, Try.ntmps17
   go_wp2_with (first | ((with_reducible refine gate_dst (N := 1) rfl ?_); refine boxE (N := 1) (cs := #[.slice A0_0 l0_0.length c0_0, .int .i64 a0_1, .int .i64 a0_2, .int .i64 a0_3, .slice A0_4 l0_4.length c0_4]) (t := 36) (h := ?_); intro gb132 hg w5 hbox hb; have BK132 := Aside0.mk (hbox); have GW132 := Aside0.mk ((t2_ : w.heap.size ≤ gb132)); have GE132 := GW132; replace HB := bS t0_ hb; clear hb hbox hg; have hcz6_0 := bc0 BK132; have hcz6_1 := bc1 BK132; have hcz6_2 := bc2 BK132; have hcz6_3 := bc3 BK132; have hcz6_4 := bc4 BK132; have hfz6_0 := bf BK132 0; have hfz6_1 := bf BK132 1; have hfz6_2 := bf BK132 2; have hfz6_3 := bf BK132 3; have hfz6_4 := bf BK132 4) | ((with_reducible refine gate_callee (f := 23) rfl ?_); refine goesL_ (some 8) rfl rfl Try.func23 (by kernel_rfl) rfl #[.agg #[.slice A0_0 l0_0.length c0_0, .int .i64 a0_1, .int .i64 a0_2, .int .i64 a0_3, .slice A0_4 l0_4.length c0_4]] rfl t1_ ?_; (with_reducible refine (spec_ManifestOk.calls k _ _ l0_0 a0_1 a0_2 a0_3 _ _ l0_4 true _ ?side1 ?side2 ?side3 ?side4 A2.out).mono ?_); (case side1 => exact cB HR0_0 HB); (case side2 => exact HC0_0.out); (case side3 => exact cB HR0_4 HB); (case side4 => exact HC0_4.out); rintro e w7 ⟨rfl, hb⟩; refine ⟨_, rfl, ?_⟩; replace BK132 := bkN BK132 hb; replace HB := bS t5_ hb; (try clear hb); have hcz8_0 := bc0 BK132; have hcz8_1 := bc1 BK132; have hcz8_2 := bc2 BK132; have hcz8_3 := bc3 BK132; have hcz8_4 := bc4 BK132; have hfz8_0 := bf BK132 0; have hfz8_1 := bf BK132 1; have hfz8_2 := bf BK132 2; have hfz8_3 := bf BK132 3; have hfz8_4 := bf BK132 4) | ((with_reducible refine gate_callee (f := 43) rfl ?_); refine goesL_ (some 13) rfl rfl Try.func43 (by kernel_rfl) rfl #[.int .i64 (l0_0.length : Int)] rfl t1_ ?_; (with_reducible refine (spec_l01Var.calls k (l0_0.length : Int) t134 _ A4.out).mono ?_); rintro e w9 ⟨rfl, hb⟩; refine ⟨_, rfl, ?_⟩; replace BK132 := bkN BK132 hb; replace HB := bS t5_ hb; (try clear hb)))
   go_loopg [4, 5] k (fun kq v4 v5 w' => ∃ (x4_1 : ByteArray) (x5_1 : Int), v4 = .string x4_1 ∧ v5 = .int .i64 x5_1 ∧ Aside0 (spec_ManifestText.l0 kq x4_1 x5_1 l0_0 a0_1 a0_2 a0_3 l0_4 = some (r1, r2)) ∧ Aside0 (kq ≤ k) ∧ Aside0 (w'.heap[gb132]? = some (.cells #[(.slice A0_0 l0_0.length c0_0), .int .i64 a0_1, .int .i64 a0_2, .int .i64 a0_3, (.slice A0_4 l0_4.length c0_4)] 36 (0, 0))) ∧ Aside0 (Below w.heap.size w w'))
   case atStart => exact ⟨(t134), (0), t6_, t6_, H', ⟨Nat.le_refl _⟩, ⟨zN BK132⟩, ⟨t5_⟩⟩
   case round =>
    clear H'
    try clear c1
    try clear c2
    try clear p2
    try clear c3
    try clear c4
    try clear hcz6_0
    try clear hcz6_1
    try clear hcz6_2
    try clear hcz6_3
    try clear hcz6_4
    try clear hcz8_0
    try clear hcz8_1
    try clear hcz8_2
    try clear hcz8_3
    try clear hcz8_4
    try clear hfz6_0
    try clear hfz6_1
    try clear hfz6_2
    try clear hfz6_3
    try clear hfz6_4
    try clear hfz8_0
    try clear hfz8_1
    try clear hfz8_2
    try clear hfz8_3
    try clear hfz8_4
    obtain ⟨x4_1, x5_1, rfl, rfl, HA, HK1, BK132, HB⟩ := hrel
    cases gk with
    | zero => exact absurd HA.out (by simp [spec_ManifestText.l0])
    | succ k1 =>
     have H := HA.out; clear HA; simp only [spec_ManifestText.l0] at H; by_cases c10 : x5_1 < (l0_0.length : Int)
     · rw [if_pos c10] at H; have c10b0 : decide (x5_1 < (l0_0.length : Int)) = true := decide_eq_true c10; clear c10; by_cases c11 : 0 ≤ x5_1
       · rw [if_pos c11] at H; have c11b0 : decide (0 ≤ x5_1) = true := decide_eq_true c11; clear c11; replace H := Option.bind_eq_some_iff.mp H; obtain ⟨t136, A120, H⟩ := H; replace H : (if x4_1.size + t136.size ≤ 9223372036854775807 then (spec_ManifestText.l0 k1 (x4_1 ++ t136) (wrap64 (x5_1 + 1)) l0_0 a0_1 a0_2 a0_3 l0_4) else (none)) = some (r1, r2) := H; have A12 := Aside0.mk A120; clear A120; by_cases c13 : x4_1.size + t136.size ≤ 9223372036854775807
         · rw [if_pos c13] at H; have c13b0 := eq_true c13; have c13b1 : decide (x4_1.size + t136.size ≤ 9223372036854775807) = true := decide_eq_true c13
           try have c13b2 : (9223372036854775807 < x4_1.size + t136.size) = False := eq_false (Nat.not_lt.2 c13)
           have H' := Aside0.mk H; clear H; have hcz14_0 := bc0 BK132; have hcz14_1 := bc1 BK132; have hcz14_2 := bc2 BK132; have hcz14_3 := bc3 BK132; have hcz14_4 := bc4 BK132; have hfz14_0 := bf BK132 0; have hfz14_1 := bf BK132 1; have hfz14_2 := bf BK132 2; have hfz14_3 := bf BK132 3; have hfz14_4 := bf BK132 4; have p135 : 0 ≤ (x5_1 : Int) := of_decide_eq_true t3_; have q135 : x5_1 < (l0_0.length : Int) := of_decide_eq_true t3_; obtain ⟨ad135, e135, hx135_0⟩ := Kd.at_int HR0_0.out x5_1 p135 q135
           cases e135
           replace hx135_0 := cW HB hx135_0; replace p135 := eq_true p135; replace q135 := eq_true q135
           go_wp2_with (first | ((with_reducible refine gate_callee (f := 43) rfl ?_); refine goesL_ (some 27) rfl rfl Try.func43 (by kernel_rfl) rfl #[.int .i64 (rd l0_0 x5_1)] rfl t1_ ?_; (with_reducible refine (spec_l01Var.calls k1 (rd l0_0 x5_1) t136 _ A12.out).mono ?_); rintro e w15 ⟨rfl, hb⟩; refine ⟨_, rfl, ?_⟩; replace BK132 := bkN BK132 hb; replace HB := bS t5_ hb; (try clear hb)))
           go_roundg k1
           case measure => have := HK1.out; omega
           case rel => exact ⟨(x4_1 ++ t136), (wrap64 (x5_1 + 1)), t6_, t6_, H', ⟨by have := HK1.out; omega⟩, ⟨zN BK132⟩, ⟨t5_⟩⟩
         · rw [if_neg c13] at H; exact absurd H (by simp)
       · rw [if_neg c11] at H; exact absurd H (by simp)
     · rw [if_neg c10] at H; have c10b0 : decide (x5_1 < (l0_0.length : Int)) = false := decide_eq_false c10; clear c10; replace H := Option.bind_eq_some_iff.mp H; obtain ⟨t137, A160, H⟩ := H; replace H : (if x4_1.size + t137.size ≤ 9223372036854775807 then ((spec_l01Var.f k1 a0_2).bind fun t138 => (if (x4_1 ++ t137).size + t138.size ≤ 9223372036854775807 then ((spec_l01Var.f k1 a0_3).bind fun t139 => (if ((x4_1 ++ t137) ++ t138).size + t139.size ≤ 9223372036854775807 then ((spec_l01Var.f k1 (l0_4.length : Int)).bind fun t140 => (if (((x4_1 ++ t137) ++ t138) ++ t139).size + t140.size ≤ 9223372036854775807 then (spec_ManifestText.l1 k1 ((((x4_1 ++ t137) ++ t138) ++ t139) ++ t140) 0 l0_0 a0_1 a0_2 a0_3 l0_4) else (none))) else (none))) else (none))) else (none)) = some (r1, r2) := H; have A16 := Aside0.mk A160; clear A160; by_cases c17 : x4_1.size + t137.size ≤ 9223372036854775807
       · rw [if_pos c17] at H; have c17b0 := eq_true c17; have c17b1 : decide (x4_1.size + t137.size ≤ 9223372036854775807) = true := decide_eq_true c17
         try have c17b2 : (9223372036854775807 < x4_1.size + t137.size) = False := eq_false (Nat.not_lt.2 c17)
         replace H := Option.bind_eq_some_iff.mp H; obtain ⟨t138, A180, H⟩ := H; replace H : (if (x4_1 ++ t137).size + t138.size ≤ 9223372036854775807 then ((spec_l01Var.f k1 a0_3).bind fun t139 => (if ((x4_1 ++ t137) ++ t138).size + t139.size ≤ 9223372036854775807 then ((spec_l01Var.f k1 (l0_4.length : Int)).bind fun t140 => (if (((x4_1 ++ t137) ++ t138) ++ t139).size + t140.size ≤ 9223372036854775807 then (spec_ManifestText.l1 k1 ((((x4_1 ++ t137) ++ t138) ++ t139) ++ t140) 0 l0_0 a0_1 a0_2 a0_3 l0_4) else (none))) else (none))) else (none)) = some (r1, r2) := H; have A18 := Aside0.mk A180; clear A180; by_cases c19 : (x4_1 ++ t137).size + t138.size ≤ 9223372036854775807
         · rw [if_pos c19] at H; have c19b0 := eq_true c19; have c19b1 : decide ((x4_1 ++ t137).size + t138.size ≤ 9223372036854775807) = true := decide_eq_true c19
           try have c19b2 : (9223372036854775807 < (x4_1 ++ t137).size + t138.size) = False := eq_false (Nat.not_lt.2 c19)
           try (have c19b3 := c19b2; simp only [ByteArray.size_append] at c19b3)
           replace H := Option.bind_eq_some_iff.mp H; obtain ⟨t139, A200, H⟩ := H; replace H : (if ((x4_1 ++ t137) ++ t138).size + t139.size ≤ 9223372036854775807 then ((spec_l01Var.f k1 (l0_4.length : Int)).bind fun t140 => (if (((x4_1 ++ t137) ++ t138) ++ t139).size + t140.size ≤ 9223372036854775807 then (spec_ManifestText.l1 k1 ((((x4_1 ++ t137) ++ t138) ++ t139) ++ t140) 0 l0_0 a0_1 a0_2 a0_3 l0_4) else (none))) else (none)) = some (r1, r2) := H; have A20 := Aside0.mk A200; clear A200; by_cases c21 : ((x4_1 ++ t137) ++ t138).size + t139.size ≤ 9223372036854775807
           · rw [if_pos c21] at H; have c21b0 := eq_true c21; have c21b1 : decide (((x4_1 ++ t137) ++ t138).size + t139.size ≤ 9223372036854775807) = true := decide_eq_true c21
             try have c21b2 : (9223372036854775807 < ((x4_1 ++ t137) ++ t138).size + t139.size) = False := eq_false (Nat.not_lt.2 c21)
             try (have c21b3 := c21b2; simp only [ByteArray.size_append] at c21b3)
             replace H := Option.bind_eq_some_iff.mp H; obtain ⟨t140, A220, H⟩ := H; replace H : (if (((x4_1 ++ t137) ++ t138) ++ t139).size + t140.size ≤ 9223372036854775807 then (spec_ManifestText.l1 k1 ((((x4_1 ++ t137) ++ t138) ++ t139) ++ t140) 0 l0_0 a0_1 a0_2 a0_3 l0_4) else (none)) = some (r1, r2) := H; have A22 := Aside0.mk A220; clear A220; by_cases c23 : (((x4_1 ++ t137) ++ t138) ++ t139).size + t140.size ≤ 9223372036854775807
             · rw [if_pos c23] at H; have c23b0 := eq_true c23; have c23b1 : decide ((((x4_1 ++ t137) ++ t138) ++ t139).size + t140.size ≤ 9223372036854775807) = true := decide_eq_true c23
               try have c23b2 : (9223372036854775807 < (((x4_1 ++ t137) ++ t138) ++ t139).size + t140.size) = False := eq_false (Nat.not_lt.2 c23)
               try (have c23b3 := c23b2; simp only [ByteArray.size_append] at c23b3)
               have H' := Aside0.mk H; clear H; have hcz24_0 := bc0 BK132; have hcz24_1 := bc1 BK132; have hcz24_2 := bc2 BK132; have hcz24_3 := bc3 BK132; have hcz24_4 := bc4 BK132; have hfz24_0 := bf BK132 0; have hfz24_1 := bf BK132 1; have hfz24_2 := bf BK132 2; have hfz24_3 := bf BK132 3; have hfz24_4 := bf BK132 4
               try go_wp2
               replace BK132 := Aside0.mk (blk_drew BK132.out); replace HB := Aside0.mk (below_drew1 HB.out); refine start_ (n := 19) (S := fun w' => w'.cell? ⟨gb132, 0, none⟩ = some (.slice A0_0 l0_0.length c0_0) ∧ w'.cell? ⟨gb132, 1, none⟩ = some (.int .i64 a0_1) ∧ w'.cell? ⟨gb132, 2, none⟩ = some (.int .i64 a0_2) ∧ w'.cell? ⟨gb132, 3, none⟩ = some (.int .i64 a0_3) ∧ w'.cell? ⟨gb132, 4, none⟩ = some (.slice A0_4 l0_4.length c0_4)) (ds := []) #[false, false, false, false, false, false, false, false, false, false, false, false, false, false, false, false, false, false, false] (by kernel_rfl) rfl rfl ⟨bc0 BK132, bc1 BK132, bc2 BK132, bc3 BK132, bc4 BK132⟩ (fun hHeld => ?_); refine with_tabW spec_ManifestText.tab8 spec_ManifestText.bits8 (fun HT_ HW_ => ?_)
               generalize wr.drew = w25 at BK132 HB hHeld ⊢; refine pure_ (i := 0) (N := some 29) (v := ?_) (a' := ?_) #[true, false, false, false, false, false, false, false, false, false, false, false, false, false, false, false, false, false, false] rfl rfl (any_of HT_.out (by kernel_rfl)) (fun _ _ _ h => h) (Or.inl ⟨by rfl, ?_⟩) ?_ ?_
               rotate_left
               · intro w'; go_simp; with_reducible rfl
               rotate_left
               · simp only [Act.put, ps1, ps2, ps3, i64_w, i32_w]; rfl
               refine pure_ (i := 1) (N := some 30) (v := ?_) (a' := ?_) #[true, true, false, false, false, false, false, false, false, false, false, false, false, false, false, false, false, false, false] rfl rfl (any_of HT_.out (by kernel_rfl)) (fun _ _ _ h => h) (Or.inl ⟨by rfl, ?_⟩) ?_ ?_
               rotate_left
               · intro w'; go_simp; with_reducible rfl
               rotate_left
               · simp only [Act.put, ps1, ps2, ps3, i64_w, i32_w]; rfl
               refine pure_ (i := 5) (N := some 34) (v := ?_) (a' := ?_) #[true, true, false, false, false, true, false, false, false, false, false, false, false, false, false, false, false, false, false] rfl rfl (any_of HT_.out (by kernel_rfl)) (fun _ _ _ h => h) (Or.inl ⟨by rfl, ?_⟩) ?_ ?_
               rotate_left
               · intro w'; go_simp; with_reducible rfl
               rotate_left
               · simp only [Act.put, ps1, ps2, ps3, i64_w, i32_w]; rfl
               refine pure_ (i := 9) (N := some 38) (v := ?_) (a' := ?_) #[true, true, false, false, false, true, false, false, false, true, false, false, false, false, false, false, false, false, false] rfl rfl (any_of HT_.out (by kernel_rfl)) (fun _ _ _ h => h) (Or.inl ⟨by rfl, ?_⟩) ?_ ?_
               rotate_left
               · intro w'; go_simp; with_reducible rfl
               rotate_left
               · simp only [Act.put, ps1, ps2, ps3, i64_w, i32_w]; rfl
               refine pure_ (i := 13) (N := some 42) (v := ?_) (a' := ?_) #[true, true, false, false, false, true, false, false, false, true, false, false, false, true, false, false, false, false, false] rfl rfl (any_of HT_.out (by kernel_rfl)) (fun _ _ _ h => h) (Or.inl ⟨by rfl, ?_⟩) ?_ ?_
               rotate_left
               · intro w'; go_simp; with_reducible rfl
               rotate_left
               · simp only [Act.put, ps1, ps2, ps3, i64_w, i32_w]; rfl
               refine take_ (i := 2) (N := some 31) (v := ?_) (a' := ?_) #[true, true, true, false, false, true, false, false, false, true, false, false, false, true, false, false, false, false, false] rfl rfl (take_ofW HT_.out HW_.out (by kernel_rfl)) (fun _ _ _ h => h) (Or.inl ⟨by rfl, ?_⟩) hHeld ?_ ?_
               rotate_left
               · rintro w' ⟨s0, s1, s2, s3, s4⟩; go_simp; with_reducible rfl
               rotate_left
               · simp only [Act.put, ps1, ps2, ps3, i64_w, i32_w]; rfl
               refine take_ (i := 6) (N := some 35) (v := ?_) (a' := ?_) #[true, true, true, false, false, true, true, false, false, true, false, false, false, true, false, false, false, false, false] rfl rfl (take_ofW HT_.out HW_.out (by kernel_rfl)) (fun _ _ _ h => h) (Or.inl ⟨by rfl, ?_⟩) hHeld ?_ ?_
               rotate_left
               · rintro w' ⟨s0, s1, s2, s3, s4⟩; go_simp; with_reducible rfl
               rotate_left
               · simp only [Act.put, ps1, ps2, ps3, i64_w, i32_w]; rfl
               refine take_ (i := 10) (N := some 39) (v := ?_) (a' := ?_) #[true, true, true, false, false, true, true, false, false, true, true, false, false, true, false, false, false, false, false] rfl rfl (take_ofW HT_.out HW_.out (by kernel_rfl)) (fun _ _ _ h => h) (Or.inl ⟨by rfl, ?_⟩) hHeld ?_ ?_
               rotate_left
               · rintro w' ⟨s0, s1, s2, s3, s4⟩; go_simp; with_reducible rfl
               rotate_left
               · simp only [Act.put, ps1, ps2, ps3, i64_w, i32_w]; rfl
               refine take_ (i := 14) (N := some 43) (v := ?_) (a' := ?_) #[true, true, true, false, false, true, true, false, false, true, true, false, false, true, true, false, false, false, false] rfl rfl (take_ofW HT_.out HW_.out (by kernel_rfl)) (fun _ _ _ h => h) (Or.inl ⟨by rfl, ?_⟩) hHeld ?_ ?_
               rotate_left
               · rintro w' ⟨s0, s1, s2, s3, s4⟩; go_simp; with_reducible rfl
               rotate_left
               · simp only [Act.put, ps1, ps2, ps3, i64_w, i32_w]; rfl
               refine pure_ (i := 15) (N := some 44) (v := ?_) (a' := ?_) #[true, true, true, false, false, true, true, false, false, true, true, false, false, true, true, true, false, false, false] rfl rfl (any_of HT_.out (by kernel_rfl)) (fun _ _ _ h => h) (Or.inl ⟨by rfl, ?_⟩) ?_ ?_
               rotate_left
               · intro w'; go_simp; with_reducible rfl
               rotate_left
               · simp only [Act.put, ps1, ps2, ps3, i64_w, i32_w]; rfl
               refine one_ (i := 3) (N := some 32) #[true, true, true, true, false, true, true, false, false, true, true, false, false, true, true, true, false, false, false] rfl rfl (one_of HT_.out (by kernel_rfl)) (by decide) (fun K hK => ?_)
               refine goes_ Try.func43 (by kernel_rfl) rfl #[.int .i64 a0_1] (by rfl) rfl rfl t1_ ?_
               with_reducible refine (spec_l01Var.calls k1 a0_1 t137 _ A16.out).mono ?_
               rintro e w26 ⟨rfl, hb⟩; refine ⟨_, rfl, ?_⟩
               replace BK132 := bkN BK132 hb; replace HB := bS t5_ hb
               (try clear hb)
               (try clear hb2)
               (try clear hk)
               (try clear hi)
               refine hK.out _ _ ⟨bc0 BK132, bc1 BK132, bc2 BK132, bc3 BK132, bc4 BK132⟩ (fun hHeld => ?_)
               clear hK K; refine norm_ (a' := ?_) ?_ ?_
               rotate_left
               · show Act.put _ (some 32) _ = _
                 simp only [Act.put, ps1, ps2, ps3, i64_w, i32_w]; rfl
               refine pure_ (i := 4) (N := some 33) (v := ?_) (a' := ?_) #[true, true, true, true, true, true, true, false, false, true, true, false, false, true, true, true, false, false, false] rfl rfl (any_of HT_.out (by kernel_rfl)) (fun _ _ _ h => h) (Or.inl ⟨by rfl, ?_⟩) ?_ ?_
               rotate_left
               · intro w'; go_simp; with_reducible rfl
               rotate_left
               · simp only [Act.put, ps1, ps2, ps3, i64_w, i32_w]; rfl
               refine one_ (i := 7) (N := some 36) #[true, true, true, true, true, true, true, true, false, true, true, false, false, true, true, true, false, false, false] rfl rfl (one_of HT_.out (by kernel_rfl)) (by decide) (fun K hK => ?_)
               refine goes_ Try.func43 (by kernel_rfl) rfl #[.int .i64 a0_2] (by rfl) rfl rfl t1_ ?_
               with_reducible refine (spec_l01Var.calls k1 a0_2 t138 _ A18.out).mono ?_
               rintro e w27 ⟨rfl, hb⟩; refine ⟨_, rfl, ?_⟩
               replace BK132 := bkN BK132 hb; replace HB := bS t5_ hb
               (try clear hb)
               (try clear hb2)
               (try clear hk)
               (try clear hi)
               refine hK.out _ _ ⟨bc0 BK132, bc1 BK132, bc2 BK132, bc3 BK132, bc4 BK132⟩ (fun hHeld => ?_)
               clear hK K; refine norm_ (a' := ?_) ?_ ?_
               rotate_left
               · show Act.put _ (some 36) _ = _
                 simp only [Act.put, ps1, ps2, ps3, i64_w, i32_w]; rfl
               refine pure_ (i := 8) (N := some 37) (v := ?_) (a' := ?_) #[true, true, true, true, true, true, true, true, true, true, true, false, false, true, true, true, false, false, false] rfl rfl (any_of HT_.out (by kernel_rfl)) (fun _ _ _ h => h) (Or.inl ⟨by rfl, ?_⟩) ?_ ?_
               rotate_left
               · intro w'; go_simp; with_reducible rfl
               rotate_left
               · simp only [Act.put, ps1, ps2, ps3, i64_w, i32_w]; rfl
               refine one_ (i := 11) (N := some 40) #[true, true, true, true, true, true, true, true, true, true, true, true, false, true, true, true, false, false, false] rfl rfl (one_of HT_.out (by kernel_rfl)) (by decide) (fun K hK => ?_)
               refine goes_ Try.func43 (by kernel_rfl) rfl #[.int .i64 a0_3] (by rfl) rfl rfl t1_ ?_
               with_reducible refine (spec_l01Var.calls k1 a0_3 t139 _ A20.out).mono ?_
               rintro e w28 ⟨rfl, hb⟩; refine ⟨_, rfl, ?_⟩
               replace BK132 := bkN BK132 hb; replace HB := bS t5_ hb
               (try clear hb)
               (try clear hb2)
               (try clear hk)
               (try clear hi)
               refine hK.out _ _ ⟨bc0 BK132, bc1 BK132, bc2 BK132, bc3 BK132, bc4 BK132⟩ (fun hHeld => ?_)
               clear hK K; refine norm_ (a' := ?_) ?_ ?_
               rotate_left
               · show Act.put _ (some 40) _ = _
                 simp only [Act.put, ps1, ps2, ps3, i64_w, i32_w]; rfl
               refine pure_ (i := 12) (N := some 41) (v := ?_) (a' := ?_) #[true, true, true, true, true, true, true, true, true, true, true, true, true, true, true, true, false, false, false] rfl rfl (any_of HT_.out (by kernel_rfl)) (fun _ _ _ h => h) (Or.inl ⟨by rfl, ?_⟩) ?_ ?_
               rotate_left
               · intro w'; go_simp; with_reducible rfl
               rotate_left
               · simp only [Act.put, ps1, ps2, ps3, i64_w, i32_w]; rfl
               refine one_ (i := 16) (N := some 45) #[true, true, true, true, true, true, true, true, true, true, true, true, true, true, true, true, true, false, false] rfl rfl (one_of HT_.out (by kernel_rfl)) (by decide) (fun K hK => ?_)
               refine goes_ Try.func43 (by kernel_rfl) rfl #[.int .i64 (l0_4.length : Int)] (by rfl) rfl rfl t1_ ?_
               with_reducible refine (spec_l01Var.calls k1 (l0_4.length : Int) t140 _ A22.out).mono ?_
               rintro e w29 ⟨rfl, hb⟩; refine ⟨_, rfl, ?_⟩
               replace BK132 := bkN BK132 hb; replace HB := bS t5_ hb
               (try clear hb)
               (try clear hb2)
               (try clear hk)
               (try clear hi)
               refine hK.out _ _ ⟨bc0 BK132, bc1 BK132, bc2 BK132, bc3 BK132, bc4 BK132⟩ (fun hHeld => ?_)
               clear hK K; refine norm_ (a' := ?_) ?_ ?_
               rotate_left
               · show Act.put _ (some 45) _ = _
                 simp only [Act.put, ps1, ps2, ps3, i64_w, i32_w]; rfl
               refine pure_ (i := 17) (N := some 46) (v := ?_) (a' := ?_) #[true, true, true, true, true, true, true, true, true, true, true, true, true, true, true, true, true, true, false] rfl rfl (any_of HT_.out (by kernel_rfl)) (fun _ _ _ h => h) (Or.inl ⟨by rfl, ?_⟩) ?_ ?_
               rotate_left
               · intro w'; go_simp; with_reducible rfl
               rotate_left
               · simp only [Act.put, ps1, ps2, ps3, i64_w, i32_w]; rfl
               refine pure_ (i := 18) (N := some 4) (v := ?_) (a' := ?_) #[true, true, true, true, true, true, true, true, true, true, true, true, true, true, true, true, true, true, true] rfl rfl (any_of HT_.out (by kernel_rfl)) (fun _ _ _ h => h) (Or.inl ⟨by rfl, ?_⟩) ?_ ?_
               rotate_left
               · intro w'; go_simp; with_reducible rfl
               rotate_left
               · simp only [Act.put, ps1, ps2, ps3, i64_w, i32_w]; rfl
               refine done_ (done_of HT_.out (by kernel_rfl)) ?_
               try go_wp2
               go_loopg [4, 6] k1 (fun kq v4 v6 w' => ∃ (x4_2 : ByteArray) (x6_2 : Int), v4 = .string x4_2 ∧ v6 = .int .i64 x6_2 ∧ Aside0 (spec_ManifestText.l1 kq x4_2 x6_2 l0_0 a0_1 a0_2 a0_3 l0_4 = some (r1, r2)) ∧ Aside0 (kq ≤ k1) ∧ Aside0 (w'.heap[gb132]? = some (.cells #[(.slice A0_0 l0_0.length c0_0), .int .i64 a0_1, .int .i64 a0_2, .int .i64 a0_3, (.slice A0_4 l0_4.length c0_4)] 36 (0, 0))) ∧ Aside0 (Below w.heap.size w w'))
               case atStart => exact ⟨((((x4_1 ++ t137) ++ t138) ++ t139) ++ t140), (0), t6_, t6_, H', ⟨Nat.le_refl _⟩, ⟨zN BK132⟩, ⟨t5_⟩⟩
               case round =>
                clear H'
                try clear c1
                try clear p1
                try clear q1
                try clear hx1
                try clear c2
                try clear p2
                try clear c3
                try clear c4
                try clear p6
                try clear c10
                try clear c10b0
                try clear c11
                try clear c11b0
                try clear c13
                try clear c13b0
                try clear c13b1
                try clear c13b2
                try clear p13
                try clear q13
                try clear hx13
                try clear c17
                try clear c17b0
                try clear c17b1
                try clear c17b2
                try clear c19
                try clear c19b0
                try clear c19b1
                try clear c19b2
                try clear c21
                try clear c21b0
                try clear c21b1
                try clear c21b2
                try clear c23
                try clear c23b0
                try clear c23b1
                try clear c23b2
                try clear hcz14_0
                try clear hcz14_1
                try clear hcz14_2
                try clear hcz14_3
                try clear hcz14_4
                try clear hcz24_0
                try clear hcz24_1
                try clear hcz24_2
                try clear hcz24_3
                try clear hcz24_4
                try clear hcz6_0
                try clear hcz6_1
                try clear hcz6_2
                try clear hcz6_3
                try clear hcz6_4
                try clear hcz8_0
                try clear hcz8_1
                try clear hcz8_2
                try clear hcz8_3
                try clear hcz8_4
                try clear hfz14_0
                try clear hfz14_1
                try clear hfz14_2
                try clear hfz14_3
                try clear hfz14_4
                try clear hfz24_0
                try clear hfz24_1
                try clear hfz24_2
                try clear hfz24_3
                try clear hfz24_4
                try clear hfz6_0
                try clear hfz6_1
                try clear hfz6_2
                try clear hfz6_3
                try clear hfz6_4
                try clear hfz8_0
                try clear hfz8_1
                try clear hfz8_2
                try clear hfz8_3
                try clear hfz8_4
                try clear hx135_0
                try clear p135
                try clear p2
                try clear q135
                obtain ⟨x4_2, x6_2, rfl, rfl, HA, HK2, BK132, HB⟩ := hrel
                cases gk with
                | zero => exact absurd HA.out (by simp [spec_ManifestText.l1])
                | succ k2 =>
                 have H := HA.out; clear HA; simp only [spec_ManifestText.l1] at H; by_cases c30 : x6_2 < (l0_4.length : Int)
                 · rw [if_pos c30] at H; have c30b0 : decide (x6_2 < (l0_4.length : Int)) = true := decide_eq_true c30; clear c30; by_cases c31 : 0 ≤ x6_2
                   · rw [if_pos c31] at H; have c31b0 : decide (0 ≤ x6_2) = true := decide_eq_true c31; clear c31; replace H := Option.bind_eq_some_iff.mp H; obtain ⟨t142, A320, H⟩ := H; replace H : (if x4_2.size + t142.size ≤ 9223372036854775807 then (spec_ManifestText.l1 k2 (x4_2 ++ t142) (wrap64 (x6_2 + 1)) l0_0 a0_1 a0_2 a0_3 l0_4) else (none)) = some (r1, r2) := H; have A32 := Aside0.mk A320; clear A320; by_cases c33 : x4_2.size + t142.size ≤ 9223372036854775807
                     · rw [if_pos c33] at H; have c33b0 := eq_true c33; have c33b1 : decide (x4_2.size + t142.size ≤ 9223372036854775807) = true := decide_eq_true c33
                       try have c33b2 : (9223372036854775807 < x4_2.size + t142.size) = False := eq_false (Nat.not_lt.2 c33)
                       have H' := Aside0.mk H; clear H; have hcz34_0 := bc0 BK132; have hcz34_1 := bc1 BK132; have hcz34_2 := bc2 BK132; have hcz34_3 := bc3 BK132; have hcz34_4 := bc4 BK132; have hfz34_0 := bf BK132 0; have hfz34_1 := bf BK132 1; have hfz34_2 := bf BK132 2; have hfz34_3 := bf BK132 3; have hfz34_4 := bf BK132 4; have p141 : 0 ≤ (x6_2 : Int) := of_decide_eq_true t3_; have q141 : x6_2 < (l0_4.length : Int) := of_decide_eq_true t3_; obtain ⟨ad141, e141, hx141_0⟩ := Kd.at_int HR0_4.out x6_2 p141 q141
                       cases e141
                       replace hx141_0 := cW HB hx141_0; replace p141 := eq_true p141; replace q141 := eq_true q141
                       go_wp2_with (first | ((with_reducible refine gate_callee (f := 43) rfl ?_); refine goesL_ (some 60) rfl rfl Try.func43 (by kernel_rfl) rfl #[.int .i64 (rd l0_4 x6_2)] rfl t1_ ?_; (with_reducible refine (spec_l01Var.calls k2 (rd l0_4 x6_2) t142 _ A32.out).mono ?_); rintro e w35 ⟨rfl, hb⟩; refine ⟨_, rfl, ?_⟩; replace BK132 := bkN BK132 hb; replace HB := bS t5_ hb; (try clear hb)))
                       go_roundg k2
                       case measure => have := HK1.out; have := HK2.out; omega
                       case rel => exact ⟨(x4_2 ++ t142), (wrap64 (x6_2 + 1)), t6_, t6_, H', ⟨by have := HK1.out; have := HK2.out; omega⟩, ⟨zN BK132⟩, ⟨t5_⟩⟩
                     · rw [if_neg c33] at H; exact absurd H (by simp)
                   · rw [if_neg c31] at H; exact absurd H (by simp)
                 · rw [if_neg c30] at H; have c30b0 : decide (x6_2 < (l0_4.length : Int)) = false := decide_eq_false c30; clear c30; replace H := Option.bind_eq_some_iff.mp H; obtain ⟨⟨t143, t144⟩, A360, H⟩ := H; replace H : (some (t143, t144)) = some (r1, r2) := H; have A36 := Aside0.mk A360; clear A360; simp only [Option.some.injEq, Prod.mk.injEq] at H; obtain ⟨rfl, rfl⟩ := H; have hcz37_0 := bc0 BK132; have hcz37_1 := bc1 BK132; have hcz37_2 := bc2 BK132; have hcz37_3 := bc3 BK132; have hcz37_4 := bc4 BK132; have hfz37_0 := bf BK132 0; have hfz37_1 := bf BK132 1; have hfz37_2 := bf BK132 2; have hfz37_3 := bf BK132 3; have hfz37_4 := bf BK132 4
                   go_wp2_with (first | ((with_reducible refine gate_callee (f := 44) rfl ?_); refine goesL_ (some 63) rfl rfl Try.func44 (by kernel_rfl) rfl #[.string x4_2] rfl t1_ ?_; (with_reducible refine (spec_Sealed.calls k2 x4_2 t143 t144 _ A36.out).mono ?_); rintro e w38 ⟨rfl, hb⟩; refine ⟨_, rfl, ?_⟩; replace BK132 := bkN BK132 hb; replace HB := bS t5_ hb; (try clear hb)))
                   go_ret2
                   exact ⟨by first | rfl | (simp [errW_none, errW_some] <;> rfl) | (simp [*, errW_none, errW_some] <;> rfl), t5_⟩
             · rw [if_neg c23] at H; exact absurd H (by simp)
           · rw [if_neg c21] at H; exact absurd H (by simp)
         · rw [if_neg c19] at H; exact absurd H (by simp)
       · rw [if_neg c17] at H; exact absurd H (by simp)
 · replace c3 := Bool.eq_false_iff.mpr c3; subst c3; have H1 : (some ((⟨#[]⟩ : ByteArray), false)) = some (r1, r2) := by rw [if_neg (show ¬ (false = true) by decide)] at H; exact H
   clear H; have H := H1; clear H1; simp only [Option.some.injEq, Prod.mk.injEq] at H; obtain ⟨rfl, rfl⟩ := H; go_enter Try.func17, Try.ntmps17
   go_wp2_with (first | ((with_reducible refine gate_dst (N := 1) rfl ?_); refine boxE (N := 1) (cs := #[.slice A0_0 l0_0.length c0_0, .int .i64 a0_1, .int .i64 a0_2, .int .i64 a0_3, .slice A0_4 l0_4.length c0_4]) (t := 36) (h := ?_); intro gb132 hg w39 hbox hb; have BK132 := Aside0.mk (hbox); have GW132 := Aside0.mk ((t2_ : w.heap.size ≤ gb132)); have GE132 := GW132; replace HB := bS t0_ hb; clear hb hbox hg; have hcz40_0 := bc0 BK132; have hcz40_1 := bc1 BK132; have hcz40_2 := bc2 BK132; have hcz40_3 := bc3 BK132; have hcz40_4 := bc4 BK132; have hfz40_0 := bf BK132 0; have hfz40_1 := bf BK132 1; have hfz40_2 := bf BK132 2; have hfz40_3 := bf BK132 3; have hfz40_4 := bf BK132 4) | ((with_reducible refine gate_callee (f := 23) rfl ?_); refine goesL_ (some 8) rfl rfl Try.func23 (by kernel_rfl) rfl #[.agg #[.slice A0_0 l0_0.length c0_0, .int .i64 a0_1, .int .i64 a0_2, .int .i64 a0_3, .slice A0_4 l0_4.length c0_4]] rfl t1_ ?_; (with_reducible refine (spec_ManifestOk.calls k _ _ l0_0 a0_1 a0_2 a0_3 _ _ l0_4 false _ ?side1 ?side2 ?side3 ?side4 A2.out).mono ?_); (case side1 => exact cB HR0_0 HB); (case side2 => exact HC0_0.out); (case side3 => exact cB HR0_4 HB); (case side4 => exact HC0_4.out); rintro e w41 ⟨rfl, hb⟩; refine ⟨_, rfl, ?_⟩; replace BK132 := bkN BK132 hb; replace HB := bS t5_ hb; (try clear hb)))
   go_ret2
   exact ⟨by first | rfl | (simp [errW_none, errW_some] <;> rfl) | (simp [*, errW_none, errW_some] <;> rfl), t5_⟩

/-! ### laws_toIntS: function 45 -/
def laws_toIntS.l0 : Nat → List Int → List Int → Int → Option (List Int)
 | 0, _, _, _ => none
 | k + 1, x0, x3, x4 => if x4 < (x0.length : Int) then (if 0 ≤ x4 then (if x4 < (x3.length : Int) then (laws_toIntS.l0 k x0 (x3.set (x4 : Int).toNat (rd x0 x4)) (wrap64 (x4 + 1))) else (none)) else (none)) else (some x3)
def laws_toIntS.f (k : Nat) (l0 : List Int) : Option (List Int) := if 0 ≤ (l0.length : Int) then (if ((l0.length : Int) : Int).toNat ≤ 35184372088832 then (laws_toIntS.l0 k l0 (List.replicate ((l0.length : Int) : Int).toNat 0) 0) else (none)) else (none)
theorem laws_toIntS.mono_l : ∀ k, (∀ y0 y1 y2, LeO (laws_toIntS.l0 k y0 y1 y2) (laws_toIntS.l0 (k + 1) y0 y1 y2))
 | 0 => fun _ _ _ r h => by simp [laws_toIntS.l0] at h
 | k + 1 => by
  have ih0 := laws_toIntS.mono_l k
  · intro y0 y1 y2
    unfold laws_toIntS.l0
    repeat' first
    | (with_reducible exact ih0 _ _ _)
    | (with_reducible exact LeO.refl _)
    | (with_reducible exact LeO.none _)
    | (with_reducible refine LeO.ite ?_ ?_)
    | (with_reducible refine LeO.bind ?_ (fun _ => ?_))
    | exact ih0 _ _ _
    | exact LeO.none _
    | refine LeO.ite ?_ ?_
    | refine LeO.bind ?_ (fun _ => ?_)
theorem laws_toIntS.mono : ∀ a0 k, LeO (laws_toIntS.f k a0) (laws_toIntS.f (k + 1) a0) := by
 intro a0 k; have ih0 := laws_toIntS.mono_l k
 unfold laws_toIntS.f
 repeat' first
  | (with_reducible exact ih0 _ _ _)
  | (with_reducible exact LeO.refl _)
  | (with_reducible exact LeO.none _)
  | (with_reducible refine LeO.ite ?_ ?_)
  | (with_reducible refine LeO.bind ?_ (fun _ => ?_))
  | exact ih0 _ _ _
  | exact LeO.none _
  | refine LeO.ite ?_ ?_
  | refine LeO.bind ?_ (fun _ => ?_)
set_option maxHeartbeats 8000000 in
set_option maxRecDepth 100000 in
theorem laws_toIntS.calls (k : Nat) (A0 : Option Addr) (c0 : Nat) (l0 : List Int) (r : List Int) (w : World) (hr0 : Kd.C (Kd.int .i64) w A0 l0.length l0) (hc0 : l0.length ≤ c0) (h : laws_toIntS.f k l0 = some r) :
 Calls Try.prog 45 #[.slice A0 l0.length c0] w fun e w' => ∃ v0_ : Value, e = .returned (v0_) ∧ Kd.R (Kd.int .i64) 3 w' w.heap.size (fun _ => True) v0_ r ∧ Below w.heap.size w w' := by
 have HR0 := Aside0.mk hr0; have HC0 := Aside0.mk hc0; clear hr0 hc0; have HB := Aside0.mk (Below.refl w.heap.size w); have H : (if 0 ≤ (l0.length : Int) then (if ((l0.length : Int) : Int).toNat ≤ 35184372088832 then (laws_toIntS.l0 k l0 (List.replicate ((l0.length : Int) : Int).toNat 0) 0) else (none)) else (none)) = some r := h; clear h; by_cases c2 : 0 ≤ (l0.length : Int)
 · rw [if_pos c2] at H; have c2b0 := eq_true c2; have c2b1 : decide (0 ≤ (l0.length : Int)) = true := decide_eq_true c2; clear c2; by_cases c3 : ((l0.length : Int) : Int).toNat ≤ 35184372088832
   · rw [if_pos c3] at H; have c3b0 := eq_true c3; have c3b1 : decide (((l0.length : Int) : Int).toNat ≤ 35184372088832) = true := decide_eq_true c3; clear c3; obtain ⟨y145, hy145⟩ : ∃ y_ : List Int, y_ = (List.replicate ((l0.length : Int) : Int).toNat 0) := ⟨_, rfl⟩; replace H : (laws_toIntS.l0 k l0 y145 0) = some r := by first | (rw [hy145]; with_reducible exact H) | (have H2_ := (Option.bind_some _ _).symm.trans H; rw [hy145]; with_reducible exact H2_) | (have H2_ := (Option.bind_some _ _).symm.trans H; with_reducible exact H2_) | with_reducible exact H | (rw [hy145]; exact H) | exact H
     have Ny145 := Aside0.mk hy145; clear hy145; have H' := Aside0.mk H; clear H; go_enter Try.func45, Try.ntmps45
     go_wp2_with (first | ((with_reducible refine gate_dst (N := 7) rfl ?_); refine Kd.R_make (Kd.int .i64) _ 3 rfl (N := 7) rfl 25 _ _ rfl (l0.length : Int) rfl rfl Try.underlying25 (.int .i64 0) 8 info3 rfl (by decide) (by omega) 0 (ok := fun _ => True) (okp := fun _ => True) rfl (fun _ hk => hk) trivial (of_decide_eq_true t3_) (Nat.le_trans (Nat.mul_le_mul_right _ (of_decide_eq_true t3_ : (l0.length : Int).toNat ≤ 35184372088832)) (by omega)) (Below.refl _ _) (Nat.le_refl _) ?_; intro v146 w4 ho5 hb hg_ hnew_; clear hg_ hnew_; (first | rw [← Ny145.out] at ho5 | (simp only [Int.reduceToNat] at ho5; rw [← Ny145.out] at ho5)); have HO147 := Aside0.mk (Kd.R_lower ho5 (below_size t0_)); replace HB := bS t0_ hb; clear hb ho5))
     go_loopg [4] k (fun kq v4 w' => ∃ (x3_1 : List Int) (x4_1 : Int), v4 = .int .i64 x4_1 ∧ Aside0 (laws_toIntS.l0 kq l0 x3_1 x4_1 = some r) ∧ Aside0 (kq ≤ k) ∧ Aside0 (Kd.R (Kd.int .i64) 3 w' w.heap.size (fun _ => True) v146 x3_1) ∧ Aside0 (Below w.heap.size w w'))
     case atStart => exact ⟨(y145), (0), t6_, H', ⟨Nat.le_refl _⟩, ⟨zK HO147⟩, ⟨t0_⟩⟩
     case round =>
      clear H'
      try clear c2
      try clear c2b0
      try clear c2b1
      try clear p2
      try clear c3
      try clear c3b0
      try clear c3b1
      try clear c4
      obtain ⟨x3_1, x4_1, rfl, HA, HK1, HO_3, HB⟩ := hrel
      cases gk with
      | zero => exact absurd HA.out (by simp [laws_toIntS.l0])
      | succ k1 =>
       have H := HA.out; clear HA; simp only [laws_toIntS.l0] at H; by_cases c6 : x4_1 < (l0.length : Int)
       · rw [if_pos c6] at H; have c6b0 : decide (x4_1 < (l0.length : Int)) = true := decide_eq_true c6; clear c6; by_cases c7 : 0 ≤ x4_1
         · rw [if_pos c7] at H; have c7b0 : decide (0 ≤ x4_1) = true := decide_eq_true c7; clear c7; by_cases c8 : x4_1 < (x3_1.length : Int)
           · rw [if_pos c8] at H; have c8b0 : decide (x4_1 < (x3_1.length : Int)) = true := decide_eq_true c8; clear c8; obtain ⟨y149, hy149⟩ : ∃ y_ : List Int, y_ = (x3_1.set (x4_1 : Int).toNat (rd l0 x4_1)) := ⟨_, rfl⟩; replace H : (laws_toIntS.l0 k1 l0 y149 (wrap64 (x4_1 + 1))) = some r := by first | (rw [hy149]; with_reducible exact H) | (have H2_ := (Option.bind_some _ _).symm.trans H; rw [hy149]; with_reducible exact H2_) | (have H2_ := (Option.bind_some _ _).symm.trans H; with_reducible exact H2_) | with_reducible exact H | (rw [hy149]; exact H) | exact H
             have Ny149 := Aside0.mk hy149; clear hy149; have H' := Aside0.mk H; clear H; have p148 : 0 ≤ (x4_1 : Int) := of_decide_eq_true t3_; have q148 : x4_1 < (l0.length : Int) := of_decide_eq_true t3_; obtain ⟨ad148, e148, hx148_0⟩ := Kd.at_int HR0.out x4_1 p148 q148
             cases e148
             replace hx148_0 := cW HB hx148_0; replace p148 := eq_true p148; replace q148 := eq_true q148; have p9 : 0 ≤ (x4_1 : Int) := of_decide_eq_true t3_; have q9 : (x4_1 : Int) < ((x3_1.length : Int) : Int) := of_decide_eq_true t3_; obtain ⟨go9, co9, eo9, gb9, gl9, cl9, HG9⟩ := Kd.R_form HO_3.out (by omega)
             (first | cases eo9 | (injection eo9 with ea_ en_ ec_; (first | subst ea_ | (injection ea_ with ea_; subst ea_)); subst ec_; clear en_))
             have GB9 := Aside0.mk gb9; have GG9 := Aside0.mk HG9; clear gb9 gl9 HG9; obtain ⟨hx9_0, hf9_0⟩ := Kd.R_celln 0 HO_3.out (x4_1 : Int) p9 q9; replace p9 := eq_true p9; replace q9 := eq_true q9; have HP10 := Kd.R_putg HO_3.out (x4_1 : Int) (rd l0 x4_1)
             go_wp2_with (first | ((with_reducible refine gate_store (t := 3) (p := 20) rfl ?_); refine store_event (t := 3) (p := 20) (v := ?vo_w11) (w1 := (wr.setCell ⟨go9, (x4_1 : Int).toNat, none⟩ (.int .i64 (rd l0 x4_1)))) ?hg ?ho ?hn ?hr ?_; (case ho => rfl); (case hg => rfl); (case hn => rfl); (case hr => first | (go_simp; done) | (go_simp; rfl)); intro w11 hw; have hg : wr.grownBy w11 (some go9) := (by rw [hw]; exact HP10.2); have hp_ : Kd.R (Kd.int .i64) 3 w11 w.heap.size (fun _ => True) (.slice (some ⟨go9, 0, none⟩) x3_1.length co9) y149 := (by rw [hw, Ny149.out]; exact HP10.1); clear HP10; replace HO_3 := Aside0.mk (hp_); replace HB := Aside0.mk ((by rw [hw]; exact below_set (HB.out) GB9.out : Below w.heap.size w w11)); clear hg hw hp_))
             go_roundg k1
             case measure => have := HK1.out; omega
             case rel => exact ⟨(y149), (wrap64 (x4_1 + 1)), t6_, H', ⟨by have := HK1.out; omega⟩, ⟨zK HO_3⟩, ⟨t0_⟩⟩
           · rw [if_neg c8] at H; exact absurd H (by simp)
         · rw [if_neg c7] at H; exact absurd H (by simp)
       · rw [if_neg c6] at H; have c6b0 : decide (x4_1 < (l0.length : Int)) = false := decide_eq_false c6; clear c6; obtain rfl := Option.some.inj H; go_wp2; go_ret; exact ⟨_, by first | rfl | (simp [errW_none, errW_some] <;> rfl) | (simp [*, errW_none, errW_some] <;> rfl), by (with_reducible repeat (first | apply Kd.R_alloc | apply Kd.R_drewN | apply Kd.R_drew)); exact HO_3.out, t0_⟩
   · rw [if_neg c3] at H; exact absurd H (by simp)
 · rw [if_neg c2] at H; exact absurd H (by simp)

/-! ### laws_toManifest: function 18 -/
def laws_toManifest.f (k : Nat) (l0_0 : List Int) (a0_1 : Int) (a0_2 : Int) (a0_3 : Int) (l0_4 : List Int) : Option (List Int × Int × Int × Int × List Int) := (laws_toIntS.f k l0_0).bind fun t153 => ((laws_toIntS.f k l0_4).bind fun t156 => (some (t153, a0_1, a0_2, a0_3, t156)))
theorem laws_toManifest.mono : ∀ a0 a1 a2 a3 a4 k, LeO (laws_toManifest.f k a0 a1 a2 a3 a4) (laws_toManifest.f (k + 1) a0 a1 a2 a3 a4) := by
 intro a0 a1 a2 a3 a4 k
 unfold laws_toManifest.f
 repeat' first
  | (with_reducible exact laws_toIntS.mono _ _)
  | (with_reducible exact LeO.refl _)
  | (with_reducible exact LeO.none _)
  | (with_reducible refine LeO.ite ?_ ?_)
  | (with_reducible refine LeO.bind ?_ (fun _ => ?_))
  | exact laws_toIntS.mono _ _
  | exact LeO.none _
  | refine LeO.ite ?_ ?_
  | refine LeO.bind ?_ (fun _ => ?_)
set_option maxHeartbeats 8000000 in
set_option maxRecDepth 100000 in
theorem laws_toManifest.calls (k : Nat) (A0_0 : Option Addr) (c0_0 : Nat) (l0_0 : List Int) (a0_1 : Int) (a0_2 : Int) (a0_3 : Int) (A0_4 : Option Addr) (c0_4 : Nat) (l0_4 : List Int) (r1 : List Int) (r2 : Int) (r3 : Int) (r4 : Int) (r5 : List Int) (w : World) (hr0_0 : Kd.C (Kd.int .i64) w A0_0 l0_0.length l0_0) (hc0_0 : l0_0.length ≤ c0_0) (hr0_4 : Kd.C (Kd.int .i64) w A0_4 l0_4.length l0_4) (hc0_4 : l0_4.length ≤ c0_4) (h : laws_toManifest.f k l0_0 a0_1 a0_2 a0_3 l0_4 = some (r1, r2, r3, r4, r5)) :
 Calls Try.prog 18 #[.agg #[.slice A0_0 l0_0.length c0_0, .int .i64 a0_1, .int .i64 a0_2, .int .i64 a0_3, .slice A0_4 l0_4.length c0_4]] w fun e w' => ∃ v0_ v4_ : Value, e = .returned (.agg #[v0_, .int .i64 r2, .int .i64 r3, .int .i64 r4, v4_]) ∧ Kd.R (Kd.int .i64) 3 w' w.heap.size (fun k_ => some k_ ≠ (v4_ : Value).ownBlock) v0_ r1 ∧ Kd.R (Kd.int .i64) 3 w' w.heap.size (fun k_ => some k_ ≠ (v0_ : Value).ownBlock) v4_ r5 ∧ Below w.heap.size w w' := by
 have hu33 := Try.underlying33; have hu36 := Try.underlying36; have HR0_0 := Aside0.mk hr0_0; have HC0_0 := Aside0.mk hc0_0; clear hr0_0 hc0_0; have HR0_4 := Aside0.mk hr0_4; have HC0_4 := Aside0.mk hc0_4; clear hr0_4 hc0_4; have HB := Aside0.mk (Below.refl w.heap.size w); have H : ((laws_toIntS.f k l0_0).bind fun t153 => ((laws_toIntS.f k l0_4).bind fun t156 => (some (t153, a0_1, a0_2, a0_3, t156)))) = some (r1, r2, r3, r4, r5) := h; clear h; replace H := Option.bind_eq_some_iff.mp H; obtain ⟨t153, A20, H⟩ := H; replace H : ((laws_toIntS.f k l0_4).bind fun t156 => (some (t153, a0_1, a0_2, a0_3, t156))) = some (r1, r2, r3, r4, r5) := H; have A2 := Aside0.mk A20; clear A20; replace H := Option.bind_eq_some_iff.mp H; obtain ⟨t156, A30, H⟩ := H; replace H : (some (t153, a0_1, a0_2, a0_3, t156)) = some (r1, r2, r3, r4, r5) := H; have A3 := Aside0.mk A30; clear A30; simp only [Option.some.injEq, Prod.mk.injEq] at H; obtain ⟨rfl, rfl, rfl, rfl, rfl⟩ := H; go_enter Try.func18, Try.ntmps18
 go_wp2_with (first | ((with_reducible refine gate_dst (N := 1) rfl ?_); refine boxE (N := 1) (cs := #[.slice A0_0 l0_0.length c0_0, .int .i64 a0_1, .int .i64 a0_2, .int .i64 a0_3, .slice A0_4 l0_4.length c0_4]) (t := 33) (h := ?_); intro gb150 hg w4 hbox hb; have BK150 := Aside0.mk (hbox); have GW150 := Aside0.mk ((t2_ : w.heap.size ≤ gb150)); have GE150 := GW150; replace HB := bS t0_ hb; clear hb hbox hg) | ((with_reducible refine gate_dst (N := 2) rfl ?_); refine boxE (N := 2) (cs := #[.slice none 0 0, .int .i64 0, .int .i64 0, .int .i64 0, .slice none 0 0]) (t := 36) (h := ?_); intro gb151 hg w5 hbox hb; have BK151 := Aside0.mk (hbox); have GW151 := Aside0.mk ((by rw [hg]; exact (below_size (by repeat (first | (with_reducible first | exact HB.out | apply below_alloc | apply pw_below_drewN | apply below_drew1 | refine below_set ?_ GE150.out) | exact HB.out))) : w.heap.size ≤ gb151)); have GE151 := Aside0.mk ((by rw [hg]; exact (below_size (by repeat (first | (with_reducible first | exact HB.out | apply below_alloc | apply pw_below_drewN | apply below_drew1 | refine below_set ?_ GE150.out) | exact HB.out))) : w.heap.size ≤ gb151)); replace HB := Aside0.mk (below_step (by repeat (first | (with_reducible first | exact HB.out | apply below_alloc | apply pw_below_drewN | apply below_drew1 | refine below_set ?_ GE150.out) | exact HB.out)) hb); have NB150_151 := nbL BK150 hg; have NB151_150 := nbG BK150 hg; replace BK150 := bkN BK150 hb; clear hb hbox hg) | ((with_reducible refine gate_dst (N := 3) rfl ?_); refine boxE (N := 3) (cs := #[.slice none 0 0, .int .i64 0, .int .i64 0, .int .i64 0, .slice none 0 0]) (t := 36) (h := ?_); intro gb152 hg w6 hbox hb; have BK152 := Aside0.mk (hbox); have GW152 := Aside0.mk ((by rw [hg]; exact (below_size (by repeat (first | (with_reducible first | exact HB.out | apply below_alloc | apply pw_below_drewN | apply below_drew1 | refine below_set ?_ GE150.out | refine below_set ?_ GE151.out) | exact HB.out))) : w.heap.size ≤ gb152)); have GE152 := Aside0.mk ((by rw [hg]; exact (below_size (by repeat (first | (with_reducible first | exact HB.out | apply below_alloc | apply pw_below_drewN | apply below_drew1 | refine below_set ?_ GE150.out | refine below_set ?_ GE151.out) | exact HB.out))) : w.heap.size ≤ gb152)); replace HB := Aside0.mk (below_step (by repeat (first | (with_reducible first | exact HB.out | apply below_alloc | apply pw_below_drewN | apply below_drew1 | refine below_set ?_ GE150.out | refine below_set ?_ GE151.out) | exact HB.out)) hb); have NB150_152 := nbL BK150 hg; have NB152_150 := nbG BK150 hg; replace BK150 := bkN BK150 hb; have NB151_152 := nbL BK151 hg; have NB152_151 := nbG BK151 hg; replace BK151 := bkN BK151 hb; clear hb hbox hg; have hnb7 := NB150_151.out; have hnc7 := NB151_150.out; have hnb8 := NB150_152.out; have hnc8 := NB152_150.out; have hcz9_0 := bc0 BK150; have hcz9_1 := bc1 BK150; have hcz9_2 := bc2 BK150; have hcz9_3 := bc3 BK150; have hcz9_4 := bc4 BK150; have hfz9_0 := bf BK150 0; have hfz9_1 := bf BK150 1; have hfz9_2 := bf BK150 2; have hfz9_3 := bf BK150 3; have hfz9_4 := bf BK150 4) | ((with_reducible refine gate_callee (f := 45) rfl ?_); refine goesL_ (some 6) rfl rfl Try.func45 (by kernel_rfl) rfl #[.slice A0_0 l0_0.length c0_0] rfl t1_ ?_; (with_reducible refine (laws_toIntS.calls k _ _ l0_0 t153 _ ?side1 ?side2 A2.out).mono ?_); (case side1 => exact cB HR0_0 HB); (case side2 => exact HC0_0.out); rintro e w10 ⟨v154, rfl, ho0, hb⟩; refine ⟨_, rfl, ?_⟩; have HO155 := Aside0.mk (Kd.R_lower ho0 (below_size t12_)); replace BK150 := bkN BK150 hb; replace BK151 := bkN BK151 hb; replace BK152 := bkN BK152 hb; replace HB := bS t12_ hb; (try clear hb); (try clear ho0); obtain ⟨Ao11, co11, eo11⟩ := Kd.R_slice HO155.out; subst eo11; have hnb12 := NB152_151.out; have hnc12 := NB151_152.out; have hcz13_0 := bc0 BK152; have hcz13_1 := bc1 BK152; have hcz13_2 := bc2 BK152; have hcz13_3 := bc3 BK152; have hcz13_4 := bc4 BK152; have hfz13_0 := bf BK152 0; have hfz13_1 := bf BK152 1; have hfz13_2 := bf BK152 2; have hfz13_3 := bf BK152 3; have hfz13_4 := bf BK152 4; have hcz14_0 := bc0 BK150; have hcz14_1 := bc1 BK150; have hcz14_2 := bc2 BK150; have hcz14_3 := bc3 BK150; have hcz14_4 := bc4 BK150; have hfz14_0 := bf BK150 0; have hfz14_1 := bf BK150 1; have hfz14_2 := bf BK150 2; have hfz14_3 := bf BK150 3; have hfz14_4 := bf BK150 4) | ((with_reducible refine gate_callee (f := 45) rfl ?_); refine goesL_ (some 19) rfl rfl Try.func45 (by kernel_rfl) rfl #[.slice A0_4 l0_4.length c0_4] rfl t1_ ?_; (with_reducible refine (laws_toIntS.calls k _ _ l0_4 t156 _ ?side1 ?side2 A3.out).mono ?_); (case side1 => exact Kd.C_below HR0_4.out t12_); (case side2 => exact HC0_4.out); rintro e w15 ⟨v157, rfl, ho0, hb⟩; refine ⟨_, rfl, ?_⟩; have HO158 := Aside0.mk (Kd.R_lower (Kd.R_new' ho0 (Kd.R_lt (by (with_reducible repeat (first | apply Kd.R_alloc | apply Kd.R_drewN | apply Kd.R_drew)); exact (Kd.R_mono (Kd.R_far (p := ⟨gb152, 3, none⟩) (Kd.R_far (p := ⟨gb152, 2, none⟩) (Kd.R_far (p := ⟨gb152, 1, none⟩) (Kd.R_far (p := ⟨gb152, 0, none⟩) (Kd.R_types HO155.out BK152.out (by decide)) (fun _ hk => hk.2) (.slice Ao11 t153.length co11)) (fun _ hk => hk.2) (.int .i64 a0_1)) (fun _ hk => hk.2) (.int .i64 a0_2)) (fun _ hk => hk.2) (.int .i64 a0_3)) (fun _ h_ => h_.1))))) (below_size t12_)); replace HO155 := Aside0.mk (Kd.R_elder' (by (with_reducible repeat (first | apply Kd.R_alloc | apply Kd.R_drewN | apply Kd.R_drew)); exact (Kd.R_mono (Kd.R_far (p := ⟨gb152, 3, none⟩) (Kd.R_far (p := ⟨gb152, 2, none⟩) (Kd.R_far (p := ⟨gb152, 1, none⟩) (Kd.R_far (p := ⟨gb152, 0, none⟩) (Kd.R_types HO155.out BK152.out (by decide)) (fun _ hk => hk.2) (.slice Ao11 t153.length co11)) (fun _ hk => hk.2) (.int .i64 a0_1)) (fun _ hk => hk.2) (.int .i64 a0_2)) (fun _ hk => hk.2) (.int .i64 a0_3)) (fun _ h_ => h_.1))) (Kd.R_base ho0) hb); replace BK150 := Aside0.mk (blk_below (g := gb150) (o := .cells #[.slice A0_0 l0_0.length c0_0, .int .i64 a0_1, .int .i64 a0_2, .int .i64 a0_3, .slice A0_4 l0_4.length c0_4] 33 (0, 0)) (zF4 BK150 NB150_152 NB150_152 NB150_152 NB150_152) hb); replace BK151 := Aside0.mk (blk_below (g := gb151) (o := .cells #[.slice none 0 0, .int .i64 0, .int .i64 0, .int .i64 0, .slice none 0 0] 36 (0, 0)) (zF4 BK151 NB151_152 NB151_152 NB151_152 NB151_152) hb); replace BK152 := Aside0.mk (blk_below (g := gb152) (o := .cells #[.slice Ao11 t153.length co11, .int .i64 a0_1, .int .i64 a0_2, .int .i64 a0_3, .slice none 0 0] 36 (0, 0)) (zQ4 BK152) hb); replace HB := bS t12_ hb; (try clear hb); (try clear hk); (try clear ho0); obtain ⟨Ao16, co16, eo16⟩ := Kd.R_slice HO158.out; subst eo16; have hcz17_0 := bc0 BK152; have hcz17_1 := bc1 BK152; have hcz17_2 := bc2 BK152; have hcz17_3 := bc3 BK152; have hcz17_4 := bc4 BK152; have hfz17_0 := bf BK152 0; have hfz17_1 := bf BK152 1; have hfz17_2 := bf BK152 2; have hfz17_3 := bf BK152 3; have hfz17_4 := bf BK152 4; have hcz18_0 := bc0 BK151; have hcz18_1 := bc1 BK151; have hcz18_2 := bc2 BK151; have hcz18_3 := bc3 BK151; have hcz18_4 := bc4 BK151; have hfz18_0 := bf BK151 0; have hfz18_1 := bf BK151 1; have hfz18_2 := bf BK151 2; have hfz18_3 := bf BK151 3; have hfz18_4 := bf BK151 4))
 refine bodyPost_ret (results_cell_row rfl _ _ gb151 36 #[.slice Ao11 t153.length co11, .int .i64 a0_1, .int .i64 a0_2, .int .i64 a0_3, .slice Ao16 t156.length co16] (0, 0) _ rfl (by (with_reducible repeat (first | refine blk_drewN ?_ _ | refine blk_drew ?_ | refine blk_alloc ?_ _)); refine blk_put (cs := #[.slice Ao11 t153.length co11, .int .i64 a0_1, .int .i64 a0_2, .int .i64 a0_3, .slice none 0 0]) ?_ 4 _ rfl; (with_reducible repeat (first | refine blk_drewN ?_ _ | refine blk_drew ?_ | refine blk_alloc ?_ _)); refine blk_put (cs := #[.slice Ao11 t153.length co11, .int .i64 a0_1, .int .i64 a0_2, .int .i64 0, .slice none 0 0]) ?_ 3 _ rfl; (with_reducible repeat (first | refine blk_drewN ?_ _ | refine blk_drew ?_ | refine blk_alloc ?_ _)); refine blk_put (cs := #[.slice Ao11 t153.length co11, .int .i64 a0_1, .int .i64 0, .int .i64 0, .slice none 0 0]) ?_ 2 _ rfl; (with_reducible repeat (first | refine blk_drewN ?_ _ | refine blk_drew ?_ | refine blk_alloc ?_ _)); refine blk_put (cs := #[.slice Ao11 t153.length co11, .int .i64 0, .int .i64 0, .int .i64 0, .slice none 0 0]) ?_ 1 _ rfl; (with_reducible repeat (first | refine blk_drewN ?_ _ | refine blk_drew ?_ | refine blk_alloc ?_ _)); refine blk_put (cs := #[.slice none 0 0, .int .i64 0, .int .i64 0, .int .i64 0, .slice none 0 0]) ?_ 0 _ rfl; (with_reducible repeat (first | refine blk_drewN ?_ _ | refine blk_drew ?_ | refine blk_alloc ?_ _)); refine blk_far ?_ NB151_152.out _; (with_reducible repeat (first | refine blk_drewN ?_ _ | refine blk_drew ?_ | refine blk_alloc ?_ _)); exact BK151.out) Try.underlying36 rfl (by kernel_rfl)) rfl ?_
 exact ⟨_, _, by first | rfl | (simp [errW_none, errW_some] <;> rfl) | (simp [*, errW_none, errW_some] <;> rfl), by (with_reducible repeat (first | apply Kd.R_alloc | apply Kd.R_drewN | apply Kd.R_drew)); exact Kd.R_mono (Kd.R_far (p := ⟨gb151, 4, none⟩) (Kd.R_far (p := ⟨gb151, 3, none⟩) (Kd.R_far (p := ⟨gb151, 2, none⟩) (Kd.R_far (p := ⟨gb151, 1, none⟩) (Kd.R_far (p := ⟨gb151, 0, none⟩) (Kd.R_far (p := ⟨gb152, 4, none⟩) (Kd.R_types (Kd.R_types HO155.out BK152.out (by decide)) BK151.out (by decide)) (fun _ hk => hk.1.2) (.slice Ao16 t156.length co16)) (fun _ hk => hk.2) (.slice Ao11 t153.length co11)) (fun _ hk => hk.2) (.int .i64 a0_1)) (fun _ hk => hk.2) (.int .i64 a0_2)) (fun _ hk => hk.2) (.int .i64 a0_3)) (fun _ hk => hk.2) (.slice Ao16 t156.length co16)) (fun _ hk => hk.1.1.2), by (with_reducible repeat (first | apply Kd.R_alloc | apply Kd.R_drewN | apply Kd.R_drew)); exact Kd.R_mono (Kd.R_far (p := ⟨gb151, 4, none⟩) (Kd.R_far (p := ⟨gb151, 3, none⟩) (Kd.R_far (p := ⟨gb151, 2, none⟩) (Kd.R_far (p := ⟨gb151, 1, none⟩) (Kd.R_far (p := ⟨gb151, 0, none⟩) (Kd.R_far (p := ⟨gb152, 4, none⟩) (Kd.R_types (Kd.R_types HO158.out BK152.out (by decide)) BK151.out (by decide)) (fun _ hk => hk.1.2) (.slice Ao16 t156.length co16)) (fun _ hk => hk.2) (.slice Ao11 t153.length co11)) (fun _ hk => hk.2) (.int .i64 a0_1)) (fun _ hk => hk.2) (.int .i64 a0_2)) (fun _ hk => hk.2) (.int .i64 a0_3)) (fun _ hk => hk.2) (.slice Ao16 t156.length co16)) (fun _ hk => hk.1.1.2), t12_⟩

end Go.Proofs.Ytpnncgfmihjlkaa.QFnExactManifestText
