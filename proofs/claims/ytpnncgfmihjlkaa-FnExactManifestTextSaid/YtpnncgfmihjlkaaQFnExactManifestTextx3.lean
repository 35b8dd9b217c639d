-- By a program of this session, over the kit's print.
import Derived.Test.YtpnncgfmihjlkaaQFnExactManifestTextx0
namespace Go.Proofs.Ytpnncgfmihjlkaa.QFnExactManifestText
open Go.RowKit Go.Proofs.YtpnncgfmihjlkaaW.PrintWords Go.Proofs.YtpnncgfmihjlkaaW.PrintLast Go.Proofs.YtpnncgfmihjlkaaW.PrintMore
attribute [local go_sem] max2_int min2_int max_two min_two max_three min_three max_four min_four   -- for this text's walks alone
set_option linter.unusedVariables false
set_option linter.unusedSimpArgs false

/-! ### impl_SumMore: function 14 -/
mutual
def impl_SumMore.l0 : Nat → Int → ByteArray → Int → Option (Int)
 | 0, _, _, _ => none
 | k + 1, x0, x1, x5 => if x5 < (x1.size : Int) then (if 0 ≤ x5 then (impl_SumMore.l1 k (Go.bits .xor .u32 x0 ((bt x1 x5) % 4294967296)) x1 x5 0) else (none)) else (some x0)
def impl_SumMore.l1 : Nat → Int → ByteArray → Int → Int → Option (Int)
 | 0, _, _, _, _ => none
 | k + 1, x0, x1, x5, x6 => if x6 < 8 then (if (Int.tmod x0 2) = 1 then (impl_SumMore.l1 k (Go.bits .xor .u32 ((Int.tdiv x0 2) % 4294967296) 3558460437) x1 x5 (wrap64 (x6 + 1))) else (impl_SumMore.l1 k ((Int.tdiv x0 2) % 4294967296) x1 x5 (wrap64 (x6 + 1)))) else (impl_SumMore.l0 k x0 x1 (wrap64 (x5 + 1)))
end
def impl_SumMore.f (k : Nat) (a0 : Int) (a1 : ByteArray) : Option (Int) := impl_SumMore.l0 k a0 a1 0
theorem impl_SumMore.mono_l : ∀ k, (∀ y0 y1 y2, LeO (impl_SumMore.l0 k y0 y1 y2) (impl_SumMore.l0 (k + 1) y0 y1 y2)) ∧ (∀ y0 y1 y2 y3, LeO (impl_SumMore.l1 k y0 y1 y2 y3) (impl_SumMore.l1 (k + 1) y0 y1 y2 y3))
 | 0 => ⟨fun _ _ _ r h => by simp [impl_SumMore.l0] at h, fun _ _ _ _ r h => by simp [impl_SumMore.l1] at h⟩
 | k + 1 => by
  obtain ⟨ih0, ih1⟩ := impl_SumMore.mono_l k; refine ⟨?_, ?_⟩
  · intro y0 y1 y2
    unfold impl_SumMore.l0
    repeat' first
    | (with_reducible exact ih0 _ _ _)
    | (with_reducible exact ih1 _ _ _ _)
    | (with_reducible exact LeO.refl _)
    | (with_reducible exact LeO.none _)
    | (with_reducible refine LeO.ite ?_ ?_)
    | (with_reducible refine LeO.bind ?_ (fun _ => ?_))
    | exact ih0 _ _ _
    | exact ih1 _ _ _ _
    | exact LeO.none _
    | refine LeO.ite ?_ ?_
    | refine LeO.bind ?_ (fun _ => ?_)
  · intro y0 y1 y2 y3
    unfold impl_SumMore.l1
    repeat' first
    | (with_reducible exact ih0 _ _ _)
    | (with_reducible exact ih1 _ _ _ _)
    | (with_reducible exact LeO.refl _)
    | (with_reducible exact LeO.none _)
    | (with_reducible refine LeO.ite ?_ ?_)
    | (with_reducible refine LeO.bind ?_ (fun _ => ?_))
    | exact ih0 _ _ _
    | exact ih1 _ _ _ _
    | exact LeO.none _
    | refine LeO.ite ?_ ?_
    | refine LeO.bind ?_ (fun _ => ?_)
theorem impl_SumMore.mono : ∀ a0 a1 k, LeO (impl_SumMore.f k a0 a1) (impl_SumMore.f (k + 1) a0 a1) := by
 intro a0 a1 k; obtain ⟨ih0, ih1⟩ := impl_SumMore.mono_l k
 unfold impl_SumMore.f
 repeat' first
  | (with_reducible exact ih0 _ _ _)
  | (with_reducible exact ih1 _ _ _ _)
  | (with_reducible exact LeO.refl _)
  | (with_reducible exact LeO.none _)
  | (with_reducible refine LeO.ite ?_ ?_)
  | (with_reducible refine LeO.bind ?_ (fun _ => ?_))
  | exact ih0 _ _ _
  | exact ih1 _ _ _ _
  | exact LeO.none _
  | refine LeO.ite ?_ ?_
  | refine LeO.bind ?_ (fun _ => ?_)
set_option maxHeartbeats 8000000 in
set_option maxRecDepth 100000 in
theorem impl_SumMore.calls (k : Nat) (a0 : Int) (a1 : ByteArray) (r : Int) (w : World) (h : impl_SumMore.f k a0 a1 = some r) :
 Calls Try.prog 14 #[.int .u32 a0, .string a1] w fun e w' => e = .returned (.int .u32 r) ∧ Drawn0 w w' := by
 have H : (impl_SumMore.l0 k a0 a1 0) = some r := h; clear h; have H' := Aside0.mk H; clear H; go_enter Try.func14, Try.ntmps14; go_wp2
 go_loopg [0, 5] k (fun kq v0 v5 w' => ∃ (x0_1 : Int) (x5_1 : Int), v0 = .int .u32 x0_1 ∧ v5 = .int .i64 x5_1 ∧ Aside0 (impl_SumMore.l0 kq x0_1 a1 x5_1 = some r) ∧ Aside0 (kq ≤ k) ∧ Drawn0 w w')
 case atStart => exact ⟨(a0), (0), t6_, t6_, H', ⟨Nat.le_refl _⟩, t7_⟩
 case round =>
  clear H'
  try clear c1
  try clear p2
  obtain ⟨x0_1, x5_1, rfl, rfl, HA, HK1, ⟨m1, rfl⟩⟩ := hrel
  cases gk with
  | zero => exact absurd HA.out (by simp [impl_SumMore.l0])
  | succ k1 =>
   have H := HA.out; clear HA; simp only [impl_SumMore.l0] at H; by_cases c3 : x5_1 < (a1.size : Int)
   · rw [if_pos c3] at H; have c3b0 : decide (x5_1 < (a1.size : Int)) = true := decide_eq_true c3; clear c3; by_cases c4 : 0 ≤ x5_1
     · rw [if_pos c4] at H; have c4b0 : decide (0 ≤ x5_1) = true := decide_eq_true c4; clear c4; have H' := Aside0.mk H; clear H; have p5 : 0 ≤ (x5_1 : Int) := of_decide_eq_true t3_; have q5 : x5_1 < (a1.size : Int) := of_decide_eq_true t3_; have hx5 := bt_at a1 x5_1; replace p5 := eq_true p5; replace q5 := eq_true q5; go_wp2
       go_loopg [0, 6] k1 (fun kq v0 v6 w' => ∃ (x0_2 : Int) (x6_2 : Int), v0 = .int .u32 x0_2 ∧ v6 = .int .i64 x6_2 ∧ Aside0 (impl_SumMore.l1 kq x0_2 a1 x5_1 x6_2 = some r) ∧ Aside0 (kq ≤ k1) ∧ Drawn0 w w')
       case atStart => exact ⟨(Go.bits .xor .u32 x0_1 ((bt a1 x5_1) % 4294967296)), (0), t6_, t6_, H', ⟨Nat.le_refl _⟩, t7_⟩
       case round =>
        clear H'
        try clear c1
        try clear p2
        try clear c3
        try clear c3b0
        try clear c4
        try clear c4b0
        try clear p5
        try clear q5
        try clear hx5
        try clear p2
        try clear p5
        try clear q5
        obtain ⟨x0_2, x6_2, rfl, rfl, HA, HK2, ⟨m2, rfl⟩⟩ := hrel
        cases gk with
        | zero => exact absurd HA.out (by simp [impl_SumMore.l1])
        | succ k2 =>
         have H := HA.out; clear HA; simp only [impl_SumMore.l1] at H; by_cases c6 : x6_2 < 8
         · rw [if_pos c6] at H; have c6b0 : decide (x6_2 < 8) = true := decide_eq_true c6; clear c6; by_cases c7 : (Int.tmod x0_2 2) = 1
           · rw [if_pos c7] at H; have c7b0 : ((Int.tmod x0_2 2) == 1) = true := beq_iff_eq.mpr c7; have c7b1 : ((Int.tmod x0_2 2) != 1) = false := bne_eq_false_iff_eq.mpr c7; clear c7; have H' := Aside0.mk H; clear H; go_wp2
             go_roundg k2
             case measure => have := HK1.out; have := HK2.out; omega
             case rel => exact ⟨(Go.bits .xor .u32 ((Int.tdiv x0_2 2) % 4294967296) 3558460437), (wrap64 (x6_2 + 1)), t6_, t6_, H', ⟨by have := HK1.out; have := HK2.out; omega⟩, t7_⟩
           · rw [if_neg c7] at H; have c7b0 : ((Int.tmod x0_2 2) == 1) = false := beq_eq_false_iff_ne.mpr c7; have c7b1 : ((Int.tmod x0_2 2) != 1) = true := bne_iff_ne.mpr c7; have H' := Aside0.mk H; clear H; go_wp2
             go_roundg k2
             case measure => have := HK1.out; have := HK2.out; omega
             case rel => exact ⟨((Int.tdiv x0_2 2) % 4294967296), (wrap64 (x6_2 + 1)), t6_, t6_, H', ⟨by have := HK1.out; have := HK2.out; omega⟩, t7_⟩
         · rw [if_neg c6] at H; have c6b0 : decide (x6_2 < 8) = false := decide_eq_false c6; clear c6; have H' := Aside0.mk H; clear H; go_wp2
           go_roundg k2
           case measure => have := HK1.out; have := HK2.out; omega
           case rel => exact ⟨(x0_2), (wrap64 (x5_1 + 1)), t6_, t6_, H', ⟨by have := HK1.out; have := HK2.out; omega⟩, t7_⟩
     · rw [if_neg c4] at H; exact absurd H (by simp)
   · rw [if_neg c3] at H; have c3b0 : decide (x5_1 < (a1.size : Int)) = false := decide_eq_false c3; clear c3; obtain rfl := Option.some.inj H; go_wp2; go_ret; exact ⟨by first | rfl | (simp; done) | (simp [*]; done), t7_⟩

/-! ### impl_SumOf: function 15 -/
def impl_SumOf.f (k : Nat) (a0 : ByteArray) : Option (Int) := (impl_SumMore.f k 4294967295 a0).bind fun t159 => (some t159)
theorem impl_SumOf.mono : ∀ a0 k, LeO (impl_SumOf.f k a0) (impl_SumOf.f (k + 1) a0) := by
 intro a0 k
 unfold impl_SumOf.f
 repeat' first
  | (with_reducible exact impl_SumMore.mono _ _ _)
  | (with_reducible exact LeO.refl _)
  | (with_reducible exact LeO.none _)
  | (with_reducible refine LeO.ite ?_ ?_)
  | (with_reducible refine LeO.bind ?_ (fun _ => ?_))
  | exact impl_SumMore.mono _ _ _
  | exact LeO.none _
  | refine LeO.ite ?_ ?_
  | refine LeO.bind ?_ (fun _ => ?_)
set_option maxHeartbeats 8000000 in
set_option maxRecDepth 100000 in
theorem impl_SumOf.calls (k : Nat) (a0 : ByteArray) (r : Int) (w : World) (h : impl_SumOf.f k a0 = some r) :
 Calls Try.prog 15 #[.string a0] w fun e w' => e = .returned (.int .u32 r) ∧ Drawn0 w w' := by
 have H : ((impl_SumMore.f k 4294967295 a0).bind fun t159 => (some t159)) = some r := h; clear h; replace H := Option.bind_eq_some_iff.mp H; obtain ⟨t159, A20, H⟩ := H; replace H : (some t159) = some r := H; have A2 := Aside0.mk A20; clear A20; obtain rfl := Option.some.inj H; go_enter Try.func15, Try.ntmps15
 go_wp2_with (first | ((with_reducible refine gate_callee (f := 14) rfl ?_); refine goesL_ (some 4) rfl rfl Try.func14 (by kernel_rfl) rfl #[.int .u32 4294967295, .string a0] rfl t1_ ?_; (with_reducible refine (impl_SumMore.calls k 4294967295 a0 t159 _ A2.out).mono ?_); rintro e w' ⟨rfl, ⟨nd, rfl⟩⟩; refine ⟨_, rfl, ?_⟩))
 go_ret; exact ⟨by first | rfl | (simp; done) | (simp [*]; done), t7_⟩

/-! ### impl_Sealed: function 12 -/
def impl_Sealed.f (k : Nat) (a0 : ByteArray) : Option (ByteArray × Bool) := if (a0.size : Int) > 20000 then (some ((⟨#[]⟩ : ByteArray), false)) else ((impl_SumOf.f k a0).bind fun t160 => ((some (([(t160 / 16777216) % 256, (t160 / 65536) % 256, (t160 / 256) % 256, (t160) % 256] : List Int) : List Int)).bind fun y161 => (if a0.size + (strOfNums y161).size ≤ 9223372036854775807 then (some (a0 ++ (strOfNums y161), true)) else (none))))
theorem impl_Sealed.mono : ∀ a0 k, LeO (impl_Sealed.f k a0) (impl_Sealed.f (k + 1) a0) := by
 intro a0 k
 unfold impl_Sealed.f
 repeat' first
  | (with_reducible exact impl_SumOf.mono _ _)
  | (with_reducible exact LeO.refl _)
  | (with_reducible exact LeO.none _)
  | (with_reducible refine LeO.ite ?_ ?_)
  | (with_reducible refine LeO.bind ?_ (fun _ => ?_))
  | exact impl_SumOf.mono _ _
  | exact LeO.none _
  | refine LeO.ite ?_ ?_
  | refine LeO.bind ?_ (fun _ => ?_)
set_option maxHeartbeats 8000000 in
set_option maxRecDepth 100000 in
theorem impl_Sealed.calls (k : Nat) (a0 : ByteArray) (r1 : ByteArray) (r2 : Bool) (w : World) (h : impl_Sealed.f k a0 = some (r1, r2)) :
 Calls Try.prog 12 #[.string a0] w fun e w' => e = .returned (.tuple #[.string r1, .bool r2]) ∧ Below w.heap.size w w' := by
 have HB := Aside0.mk (Below.refl w.heap.size w); have H : (if (a0.size : Int) > 20000 then (some ((⟨#[]⟩ : ByteArray), false)) else ((impl_SumOf.f k a0).bind fun t160 => ((some (([(t160 / 16777216) % 256, (t160 / 65536) % 256, (t160 / 256) % 256, (t160) % 256] : List Int) : List Int)).bind fun y161 => (if a0.size + (strOfNums y161).size ≤ 9223372036854775807 then (some (a0 ++ (strOfNums y161), true)) else (none))))) = some (r1, r2) := h; clear h; by_cases c2 : (a0.size : Int) > 20000
 · rw [if_pos c2] at H; have c2b0 : decide (20000 < (a0.size : Int)) = true := decide_eq_true c2; have c2b1 : decide (20000 < a0.size) = true := decide_eq_true (by omega); clear c2; simp only [Option.some.injEq, Prod.mk.injEq] at H; obtain ⟨rfl, rfl⟩ := H; go_enter Try.func12, Try.ntmps12; go_wp2
   go_ret2
   exact ⟨by first | rfl | (simp [errW_none, errW_some] <;> rfl) | (simp [*, errW_none, errW_some] <;> rfl), t0_⟩
 · rw [if_neg c2] at H; have c2b0 : decide (20000 < (a0.size : Int)) = false := decide_eq_false c2; have c2b1 : decide (20000 < a0.size) = false := decide_eq_false (by omega); clear c2; replace H := Option.bind_eq_some_iff.mp H; obtain ⟨t160, A30, H⟩ := H; replace H : ((some (([(t160 / 16777216) % 256, (t160 / 65536) % 256, (t160 / 256) % 256, (t160) % 256] : List Int) : List Int)).bind fun y161 => (if a0.size + (strOfNums y161).size ≤ 9223372036854775807 then (some (a0 ++ (strOfNums y161), true)) else (none))) = some (r1, r2) := H; have A3 := Aside0.mk A30; clear A30; obtain ⟨y161, hy161⟩ : ∃ y_ : List Int, y_ = (([(t160 / 16777216) % 256, (t160 / 65536) % 256, (t160 / 256) % 256, (t160) % 256] : List Int)) := ⟨_, rfl⟩; replace H : (if a0.size + (strOfNums y161).size ≤ 9223372036854775807 then (some (a0 ++ (strOfNums y161), true)) else (none)) = some (r1, r2) := by first | (rw [hy161]; with_reducible exact H) | (have H2_ := (Option.bind_some _ _).symm.trans H; rw [hy161]; with_reducible exact H2_) | (have H2_ := (Option.bind_some _ _).symm.trans H; with_reducible exact H2_) | with_reducible exact H | (rw [hy161]; exact H) | exact H
   have Ny161 := Aside0.mk hy161; clear hy161; by_cases c4 : a0.size + (strOfNums y161).size ≤ 9223372036854775807
   · rw [if_pos c4] at H; have c4b0 := eq_true c4; have c4b1 : decide (a0.size + (strOfNums y161).size ≤ 9223372036854775807) = true := decide_eq_true c4
     try have c4b2 : (9223372036854775807 < a0.size + (strOfNums y161).size) = False := eq_false (Nat.not_lt.2 c4)
     simp only [Option.some.injEq, Prod.mk.injEq] at H; obtain ⟨rfl, rfl⟩ := H; go_enter Try.func12, Try.ntmps12
     go_wp2_with (first | ((with_reducible refine gate_callee (f := 15) rfl ?_); refine goesL_ (some 9) rfl rfl Try.func15 (by kernel_rfl) rfl #[.string a0] rfl t1_ ?_; (with_reducible refine (impl_SumOf.calls k a0 t160 _ A3.out).mono ?_); rintro e w' ⟨rfl, ⟨nd, rfl⟩⟩; refine ⟨_, rfl, ?_⟩) | ((with_reducible refine gate_dst (N := 22) rfl ?_); refine Kd.R_lit (Kd.int .u8) _ 5 ?hg (N := 22) ?hd (xs := ([(t160 / 16777216) % 256, (t160 / 65536) % 256, (t160 / 256) % 256, (t160) % 256] : List Int)) (inner := [.int .u8 ((t160 / 16777216) % 256), .int .u8 ((t160 / 65536) % 256), .int .u8 ((t160 / 256) % 256), .int .u8 ((t160) % 256)]) (ok := fun _ => True) (okp := fun _ => True) ?hr ?hp (fun _ hk => hk) trivial (Below.refl _ _) (Nat.le_refl _) (by simp) ?_; (case hd => rfl); (case hg => rfl); (case hr => first | (go_simp; done) | (go_simp; rfl)); (case hp => exact (Reps.one (show Kd.M (Kd.int .u8) _ _ _ ((t160 / 16777216) % 256) [.int .u8 ((t160 / 16777216) % 256)] from rfl) (Reps.one (show Kd.M (Kd.int .u8) _ _ _ ((t160 / 65536) % 256) [.int .u8 ((t160 / 65536) % 256)] from rfl) (Reps.one (show Kd.M (Kd.int .u8) _ _ _ ((t160 / 256) % 256) [.int .u8 ((t160 / 256) % 256)] from rfl) (Reps.one (show Kd.M (Kd.int .u8) _ _ _ ((t160) % 256) [.int .u8 ((t160) % 256)] from rfl) (Reps.none _ _)))))); intro v162 w5 ho6 hb hg_ hnew_; clear hg_ hnew_; (first | rw [← Ny161.out] at ho6 | (simp only [Int.reduceToNat] at ho6; rw [← Ny161.out] at ho6)); have HO163 := Aside0.mk (Kd.R_lower ho6 (below_size t0_)); replace HB := bS t0_ hb; clear hb ho6; have hcv7 := own_string (P := Try.prog) Try.underlying22 Try.underlying5 Try.underlying9 (Kd.own_of_R HO163.out)))
     go_ret2
     exact ⟨by first | rfl | (simp [errW_none, errW_some] <;> rfl) | (simp [*, errW_none, errW_some] <;> rfl), t0_⟩
   · rw [if_neg c4] at H; exact absurd H (by simp)

/-! ### impl_within: function 68 -/
def impl_within.f (a0 : Int) (a1 : Int) (a2 : Int) : Option (Bool) := if a0 ≥ a1 then (some (decide (a0 ≤ a2))) else (some false)
set_option maxHeartbeats 8000000 in
set_option maxRecDepth 100000 in
theorem impl_within.calls (a0 : Int) (a1 : Int) (a2 : Int) (r : Bool) (w : World) (h : impl_within.f a0 a1 a2 = some r) :
 Calls Try.prog 68 #[.int .i64 a0, .int .i64 a1, .int .i64 a2] w fun e w' => e = .returned (.bool r) ∧ Drawn0 w w' := by
 have H : (if a0 ≥ a1 then (some (decide (a0 ≤ a2))) else (some false)) = some r := h; clear h; by_cases c4 : a0 ≥ a1
 · rw [if_pos c4] at H; have c4b0 : decide (a1 ≤ a0) = true := decide_eq_true c4; clear c4; obtain rfl := Option.some.inj H; go_enter Try.func68, Try.ntmps68; go_wp2; go_ret; exact ⟨by first | rfl | (simp; done) | (simp [*]; done), t7_⟩
 · rw [if_neg c4] at H; have c4b0 : decide (a1 ≤ a0) = false := decide_eq_false c4; clear c4; obtain rfl := Option.some.inj H; go_enter Try.func68, Try.ntmps68; go_wp2; go_ret; exact ⟨by first | rfl | (simp; done) | (simp [*]; done), t7_⟩

/-! ### impl_ConfOk: function 81 -/
def impl_ConfOk.l0 : Nat → List Int → List Int → Int → Int → Option (Bool)
 | 0, _, _, _, _ => none
 | k + 1, x0, x5, x6, x7 => if x7 < x6 then (if 0 ≤ x7 then (if x7 < (x5.length : Int) then ((impl_within.f (rd x5 x7) 1 4).bind fun t165 => (if t165 = true then (if x7 > 0 then (if 0 ≤ (wrap64 (x7 - 1)) then (if (wrap64 (x7 - 1)) < (x0.length : Int) then (if (rd x0 (wrap64 (x7 - 1))) ≥ (rd x5 x7) then (some false) else (impl_ConfOk.l0 k x0 x5 x6 (wrap64 (x7 + 1)))) else (none)) else (none)) else (impl_ConfOk.l0 k x0 x5 x6 (wrap64 (x7 + 1)))) else (some false))) else (none)) else (none)) else ((impl_within.f (x0.length : Int) 1 4).bind fun t167 => (some t167))
def impl_ConfOk.f (k : Nat) (l0 : List Int) : Option (Bool) := impl_ConfOk.l0 k l0 l0 (l0.length : Int) 0
theorem impl_ConfOk.mono_l : ∀ k, (∀ y0 y1 y2 y3, LeO (impl_ConfOk.l0 k y0 y1 y2 y3) (impl_ConfOk.l0 (k + 1) y0 y1 y2 y3))
 | 0 => fun _ _ _ _ r h => by simp [impl_ConfOk.l0] at h
 | k + 1 => by
  have ih0 := impl_ConfOk.mono_l k
  · intro y0 y1 y2 y3
    unfold impl_ConfOk.l0
    repeat' first
    | (with_reducible exact ih0 _ _ _ _)
    | (with_reducible exact LeO.refl _)
    | (with_reducible exact LeO.none _)
    | (with_reducible refine LeO.ite ?_ ?_)
    | (with_reducible refine LeO.bind ?_ (fun _ => ?_))
    | exact ih0 _ _ _ _
    | exact LeO.none _
    | refine LeO.ite ?_ ?_
    | refine LeO.bind ?_ (fun _ => ?_)
theorem impl_ConfOk.mono : ∀ a0 k, LeO (impl_ConfOk.f k a0) (impl_ConfOk.f (k + 1) a0) := by
 intro a0 k; have ih0 := impl_ConfOk.mono_l k
 unfold impl_ConfOk.f
 repeat' first
  | (with_reducible exact ih0 _ _ _ _)
  | (with_reducible exact LeO.refl _)
  | (with_reducible exact LeO.none _)
  | (with_reducible refine LeO.ite ?_ ?_)
  | (with_reducible refine LeO.bind ?_ (fun _ => ?_))
  | exact ih0 _ _ _ _
  | exact LeO.none _
  | refine LeO.ite ?_ ?_
  | refine LeO.bind ?_ (fun _ => ?_)
set_option maxHeartbeats 8000000 in
set_option maxRecDepth 100000 in
theorem impl_ConfOk.calls (k : Nat) (A0 : Option Addr) (c0 : Nat) (l0 : List Int) (r : Bool) (w : World) (hr0 : Kd.C (Kd.int .i64) w A0 l0.length l0) (hc0 : l0.length ≤ c0) (h : impl_ConfOk.f k l0 = some r) :
 Calls Try.prog 81 #[.slice A0 l0.length c0] w fun e w' => e = .returned (.bool r) ∧ Drawn0 w w' := by
 have HR0 := Aside0.mk hr0; have HC0 := Aside0.mk hc0; clear hr0 hc0; have H : (impl_ConfOk.l0 k l0 l0 (l0.length : Int) 0) = some r := h; clear h; have H' := Aside0.mk H; clear H; go_enter Try.func81, Try.ntmps81; go_wp2
 go_loopg [7] k (fun kq v7 w' => ∃ (x7_1 : Int), v7 = .int .i64 x7_1 ∧ Aside0 (impl_ConfOk.l0 kq l0 l0 (l0.length : Int) x7_1 = some r) ∧ Aside0 (kq ≤ k) ∧ Drawn0 w w')
 case atStart => exact ⟨(0), t6_, H', ⟨Nat.le_refl _⟩, t7_⟩
 case round =>
  clear H'; obtain ⟨x7_1, rfl, HA, HK1, ⟨m1, rfl⟩⟩ := hrel
  cases gk with
  | zero => exact absurd HA.out (by simp [impl_ConfOk.l0])
  | succ k1 =>
   have H := HA.out; clear HA; simp only [impl_ConfOk.l0] at H; by_cases c2 : x7_1 < (l0.length : Int)
   · rw [if_pos c2] at H; have c2b0 : decide (x7_1 < (l0.length : Int)) = true := decide_eq_true c2; clear c2; by_cases c3 : 0 ≤ x7_1
     · rw [if_pos c3] at H; have c3b0 : decide (0 ≤ x7_1) = true := decide_eq_true c3; clear c3; by_cases c4 : x7_1 < (l0.length : Int)
       · rw [if_pos c4] at H; have c4b0 : decide (x7_1 < (l0.length : Int)) = true := decide_eq_true c4; clear c4; replace H := Option.bind_eq_some_iff.mp H; obtain ⟨t165, A50, H⟩ := H; replace H : (if t165 = true then (if x7_1 > 0 then (if 0 ≤ (wrap64 (x7_1 - 1)) then (if (wrap64 (x7_1 - 1)) < (l0.length : Int) then (if (rd l0 (wrap64 (x7_1 - 1))) ≥ (rd l0 x7_1) then (some false) else (impl_ConfOk.l0 k1 l0 l0 (l0.length : Int) (wrap64 (x7_1 + 1)))) else (none)) else (none)) else (impl_ConfOk.l0 k1 l0 l0 (l0.length : Int) (wrap64 (x7_1 + 1)))) else (some false)) = some r := H; have A5 := Aside0.mk A50; clear A50; by_cases c6 : t165 = true
         · subst c6; have H1 : (if x7_1 > 0 then (if 0 ≤ (wrap64 (x7_1 - 1)) then (if (wrap64 (x7_1 - 1)) < (l0.length : Int) then (if (rd l0 (wrap64 (x7_1 - 1))) ≥ (rd l0 x7_1) then (some false) else (impl_ConfOk.l0 k1 l0 l0 (l0.length : Int) (wrap64 (x7_1 + 1)))) else (none)) else (none)) else (impl_ConfOk.l0 k1 l0 l0 (l0.length : Int) (wrap64 (x7_1 + 1)))) = some r := by rw [if_pos rfl] at H; exact H
           clear H; have H := H1; clear H1; by_cases c7 : x7_1 > 0
           · rw [if_pos c7] at H; have c7b0 : decide (0 < x7_1) = true := decide_eq_true c7; clear c7; obtain ⟨ji8, hji8⟩ : ∃ j_ : Int, (wrap64 (x7_1 - 1)) = j_ := ⟨_, rfl⟩; replace H : (if 0 ≤ (ji8) then (if (ji8) < (l0.length : Int) then (if (rd l0 (ji8)) ≥ (rd l0 x7_1) then (some false) else (impl_ConfOk.l0 k1 l0 l0 (l0.length : Int) (wrap64 (x7_1 + 1)))) else (none)) else (none)) = some r := by first | (rw [hji8] at H; exact H) | (simp only [hji8] at H ⊢; exact H)
             (try rw [hji8] at A5)
             have hji8w : (IntKind.i64.wrap (x7_1 - 1)) = ji8 := (i64_w _).trans hji8; by_cases c9 : 0 ≤ (ji8)
             · rw [if_pos c9] at H; have c9b0 : decide (0 ≤ (ji8)) = true := decide_eq_true c9; clear c9; by_cases c10 : (ji8) < (l0.length : Int)
               · rw [if_pos c10] at H; have c10b0 : decide ((ji8) < (l0.length : Int)) = true := decide_eq_true c10; clear c10; by_cases c11 : (rd l0 (ji8)) ≥ (rd l0 x7_1)
                 · rw [if_pos c11] at H; have c11b0 : decide ((rd l0 x7_1) ≤ (rd l0 (ji8))) = true := decide_eq_true c11; clear c11; obtain rfl := Option.some.inj H; have p164 : 0 ≤ (x7_1 : Int) := of_decide_eq_true t3_; have q164 : x7_1 < (l0.length : Int) := of_decide_eq_true t3_; obtain ⟨ad164, e164, hx164_0⟩ := Kd.at_int HR0.out x7_1 p164 q164
                   cases e164
                   replace p164 := eq_true p164; replace q164 := eq_true q164
                   go_wp2_with (first | ((with_reducible refine gate_callee (f := 68) rfl ?_); refine goesL_ (some 13) rfl rfl Try.func68 (by kernel_rfl) rfl #[.int .i64 (rd l0 x7_1), .int .i64 1, .int .i64 4] rfl t1_ ?_; (with_reducible refine (impl_within.calls (rd l0 x7_1) 1 4 true _ A5.out).mono ?_); rintro e w' ⟨rfl, ⟨nd, rfl⟩⟩; refine ⟨_, rfl, ?_⟩; have p166 : 0 ≤ ((ji8) : Int) := of_decide_eq_true t3_; have q166 : (ji8) < (l0.length : Int) := of_decide_eq_true t3_; obtain ⟨ad166, e166, hx166_0⟩ := Kd.at_int HR0.out (ji8) p166 q166; obtain rfl : ad164 = ad166 := (by injection e166); replace p166 := eq_true p166; replace q166 := eq_true q166))
                   go_ret; exact ⟨by first | rfl | (simp; done) | (simp only [← hji8] <;> (first | rfl | simp)) | (simp [*]; done), t7_⟩
                 · rw [if_neg c11] at H; have c11b0 : decide ((rd l0 x7_1) ≤ (rd l0 (ji8))) = false := decide_eq_false c11; clear c11; have H' := Aside0.mk H; clear H; have p164 : 0 ≤ (x7_1 : Int) := of_decide_eq_true t3_; have q164 : x7_1 < (l0.length : Int) := of_decide_eq_true t3_; obtain ⟨ad164, e164, hx164_0⟩ := Kd.at_int HR0.out x7_1 p164 q164
                   cases e164
                   replace p164 := eq_true p164; replace q164 := eq_true q164
                   go_wp2_with (first | ((with_reducible refine gate_callee (f := 68) rfl ?_); refine goesL_ (some 13) rfl rfl Try.func68 (by kernel_rfl) rfl #[.int .i64 (rd l0 x7_1), .int .i64 1, .int .i64 4] rfl t1_ ?_; (with_reducible refine (impl_within.calls (rd l0 x7_1) 1 4 true _ A5.out).mono ?_); rintro e w' ⟨rfl, ⟨nd, rfl⟩⟩; refine ⟨_, rfl, ?_⟩; have p166 : 0 ≤ ((ji8) : Int) := of_decide_eq_true t3_; have q166 : (ji8) < (l0.length : Int) := of_decide_eq_true t3_; obtain ⟨ad166, e166, hx166_0⟩ := Kd.at_int HR0.out (ji8) p166 q166; obtain rfl : ad164 = ad166 := (by injection e166); replace p166 := eq_true p166; replace q166 := eq_true q166))
                   go_roundg k1
                   case measure => have := HK1.out; omega
                   case rel => exact ⟨(wrap64 (x7_1 + 1)), t6_, H', ⟨by have := HK1.out; omega⟩, t7_⟩
               · rw [if_neg c10] at H; exact absurd H (by simp)
             · rw [if_neg c9] at H; exact absurd H (by simp)
           · rw [if_neg c7] at H; have c7b0 : decide (0 < x7_1) = false := decide_eq_false c7; clear c7; have H' := Aside0.mk H; clear H; have p164 : 0 ≤ (x7_1 : Int) := of_decide_eq_true t3_; have q164 : x7_1 < (l0.length : Int) := of_decide_eq_true t3_; obtain ⟨ad164, e164, hx164_0⟩ := Kd.at_int HR0.out x7_1 p164 q164
             cases e164
             replace p164 := eq_true p164; replace q164 := eq_true q164
             go_wp2_with (first | ((with_reducible refine gate_callee (f := 68) rfl ?_); refine goesL_ (some 13) rfl rfl Try.func68 (by kernel_rfl) rfl #[.int .i64 (rd l0 x7_1), .int .i64 1, .int .i64 4] rfl t1_ ?_; (with_reducible refine (impl_within.calls (rd l0 x7_1) 1 4 true _ A5.out).mono ?_); rintro e w' ⟨rfl, ⟨nd, rfl⟩⟩; refine ⟨_, rfl, ?_⟩))
             go_roundg k1
             case measure => have := HK1.out; omega
             case rel => exact ⟨(wrap64 (x7_1 + 1)), t6_, H', ⟨by have := HK1.out; omega⟩, t7_⟩
         · replace c6 := Bool.eq_false_iff.mpr c6; subst c6; have H1 : (some false) = some r := by rw [if_neg (show ¬ (false = true) by decide)] at H; exact H
           clear H; have H := H1; clear H1; obtain rfl := Option.some.inj H; have p164 : 0 ≤ (x7_1 : Int) := of_decide_eq_true t3_; have q164 : x7_1 < (l0.length : Int) := of_decide_eq_true t3_; obtain ⟨ad164, e164, hx164_0⟩ := Kd.at_int HR0.out x7_1 p164 q164
           cases e164
           replace p164 := eq_true p164; replace q164 := eq_true q164
           go_wp2_with (first | ((with_reducible refine gate_callee (f := 68) rfl ?_); refine goesL_ (some 13) rfl rfl Try.func68 (by kernel_rfl) rfl #[.int .i64 (rd l0 x7_1), .int .i64 1, .int .i64 4] rfl t1_ ?_; (with_reducible refine (impl_within.calls (rd l0 x7_1) 1 4 false _ A5.out).mono ?_); rintro e w' ⟨rfl, ⟨nd, rfl⟩⟩; refine ⟨_, rfl, ?_⟩))
           go_ret; exact ⟨by first | rfl | (simp; done) | (simp [*]; done), t7_⟩
       · rw [if_neg c4] at H; exact absurd H (by simp)
     · rw [if_neg c3] at H; exact absurd H (by simp)
   · rw [if_neg c2] at H; have c2b0 : decide (x7_1 < (l0.length : Int)) = false := decide_eq_false c2; clear c2; replace H := Option.bind_eq_some_iff.mp H; obtain ⟨t167, A120, H⟩ := H; replace H : (some t167) = some r := H; have A12 := Aside0.mk A120; clear A120; obtain rfl := Option.some.inj H
     go_wp2_with (first | ((with_reducible refine gate_callee (f := 68) rfl ?_); refine goesL_ (some 31) rfl rfl Try.func68 (by kernel_rfl) rfl #[.int .i64 (l0.length : Int), .int .i64 1, .int .i64 4] rfl t1_ ?_; (with_reducible refine (impl_within.calls (l0.length : Int) 1 4 t167 _ A12.out).mono ?_); rintro e w' ⟨rfl, ⟨nd, rfl⟩⟩; refine ⟨_, rfl, ?_⟩))
     go_ret; exact ⟨by first | rfl | (simp; done) | (simp [*]; done), t7_⟩

/-! ### impl_ManifestOk: function 46 -/
def impl_ManifestOk.l0 : Nat → List Int → Int → Int → List Int → Int → Int → Int → List Int → Option (Bool)
 | 0, _, _, _, _, _, _, _, _ => none
 | k + 1, x6, x7, x8, x169000, x169001, x169002, x169003, x169004 => if x8 < x7 then (if 0 ≤ x8 then (if x8 < (x6.length : Int) then ((impl_within.f (rd x6 x8) 0 999).bind fun t170 => (if t170 = true then (if (rd x6 x8) ≥ x169001 then (some false) else (if x8 > 0 then (if 0 ≤ (wrap64 (x8 - 1)) then (if (wrap64 (x8 - 1)) < (x169000.length : Int) then (if (rd x169000 (wrap64 (x8 - 1))) ≥ (rd x6 x8) then (some false) else (impl_ManifestOk.l0 k x6 x7 (wrap64 (x8 + 1)) x169000 x169001 x169002 x169003 x169004)) else (none)) else (none)) else (impl_ManifestOk.l0 k x6 x7 (wrap64 (x8 + 1)) x169000 x169001 x169002 x169003 x169004))) else (some false))) else (none)) else (none)) else ((impl_within.f (x169000.length : Int) 1 8).bind fun t172 => (if t172 = true then (if x169001 ≤ 1000 then ((impl_within.f x169002 0 100000).bind fun t173 => (if t173 = true then ((impl_within.f x169003 0 100000).bind fun t174 => (if t174 = true then ((impl_ConfOk.f k x169004).bind fun t175 => (some t175)) else (some false))) else (some false))) else (some false)) else (some false)))
def impl_ManifestOk.f (k : Nat) (l0_0 : List Int) (a0_1 : Int) (a0_2 : Int) (a0_3 : Int) (l0_4 : List Int) : Option (Bool) := impl_ManifestOk.l0 k l0_0 (l0_0.length : Int) 0 l0_0 a0_1 a0_2 a0_3 l0_4
theorem impl_ManifestOk.mono_l : ∀ k, (∀ y0 y1 y2 y3 y4 y5 y6 y7, LeO (impl_ManifestOk.l0 k y0 y1 y2 y3 y4 y5 y6 y7) (impl_ManifestOk.l0 (k + 1) y0 y1 y2 y3 y4 y5 y6 y7))
 | 0 => fun _ _ _ _ _ _ _ _ r h => by simp [impl_ManifestOk.l0] at h
 | k + 1 => by
  have ih0 := impl_ManifestOk.mono_l k
  · intro y0 y1 y2 y3 y4 y5 y6 y7
    unfold impl_ManifestOk.l0
    repeat' first
    | (with_reducible exact ih0 _ _ _ _ _ _ _ _)
    | (with_reducible exact impl_ConfOk.mono _ _)
    | (with_reducible exact LeO.refl _)
    | (with_reducible exact LeO.none _)
    | (with_reducible refine LeO.ite ?_ ?_)
    | (with_reducible refine LeO.bind ?_ (fun _ => ?_))
    | exact ih0 _ _ _ _ _ _ _ _
    | exact impl_ConfOk.mono _ _
    | exact LeO.none _
    | refine LeO.ite ?_ ?_
    | refine LeO.bind ?_ (fun _ => ?_)
theorem impl_ManifestOk.mono : ∀ a0 a1 a2 a3 a4 k, LeO (impl_ManifestOk.f k a0 a1 a2 a3 a4) (impl_ManifestOk.f (k + 1) a0 a1 a2 a3 a4) := by
 intro a0 a1 a2 a3 a4 k; have ih0 := impl_ManifestOk.mono_l k
 unfold impl_ManifestOk.f
 repeat' first
  | (with_reducible exact ih0 _ _ _ _ _ _ _ _)
  | (with_reducible exact impl_ConfOk.mono _ _)
  | (with_reducible exact LeO.refl _)
  | (with_reducible exact LeO.none _)
  | (with_reducible refine LeO.ite ?_ ?_)
  | (with_reducible refine LeO.bind ?_ (fun _ => ?_))
  | exact ih0 _ _ _ _ _ _ _ _
  | exact impl_ConfOk.mono _ _
  | exact LeO.none _
  | refine LeO.ite ?_ ?_
  | refine LeO.bind ?_ (fun _ => ?_)
set_option maxHeartbeats 8000000 in
set_option maxRecDepth 100000 in
theorem impl_ManifestOk.calls (k : Nat) (A0_0 : Option Addr) (c0_0 : Nat) (l0_0 : List Int) (a0_1 : Int) (a0_2 : Int) (a0_3 : Int) (A0_4 : Option Addr) (c0_4 : Nat) (l0_4 : List Int) (r : Bool) (w : World) (hr0_0 : Kd.C (Kd.int .i64) w A0_0 l0_0.length l0_0) (hc0_0 : l0_0.length ≤ c0_0) (hr0_4 : Kd.C (Kd.int .i64) w A0_4 l0_4.length l0_4) (hc0_4 : l0_4.length ≤ c0_4) (h : impl_ManifestOk.f k l0_0 a0_1 a0_2 a0_3 l0_4 = some r) :
 Calls Try.prog 46 #[.agg #[.slice A0_0 l0_0.length c0_0, .int .i64 a0_1, .int .i64 a0_2, .int .i64 a0_3, .slice A0_4 l0_4.length c0_4]] w fun e w' => e = .returned (.bool r) ∧ Below w.heap.size w w' := by
 have hu36 := Try.underlying36; have HR0_0 := Aside0.mk hr0_0; have HC0_0 := Aside0.mk hc0_0; clear hr0_0 hc0_0; have HR0_4 := Aside0.mk hr0_4; have HC0_4 := Aside0.mk hc0_4; clear hr0_4 hc0_4; have HB := Aside0.mk (Below.refl w.heap.size w); have H : (impl_ManifestOk.l0 k l0_0 (l0_0.length : Int) 0 l0_0 a0_1 a0_2 a0_3 l0_4) = some r := h; clear h; have H' := Aside0.mk H; clear H; go_enter Try.func46, Try.ntmps46
 go_wp2_with (first | ((with_reducible refine gate_dst (N := 1) rfl ?_); refine boxE (N := 1) (cs := #[.slice A0_0 l0_0.length c0_0, .int .i64 a0_1, .int .i64 a0_2, .int .i64 a0_3, .slice A0_4 l0_4.length c0_4]) (t := 36) (h := ?_); intro gb168 hg w2 hbox hb; have BK168 := Aside0.mk (hbox); have GW168 := Aside0.mk ((t2_ : w.heap.size ≤ gb168)); have GE168 := GW168; replace HB := bS t0_ hb; clear hb hbox hg; have hcz3_0 := bc0 BK168; have hcz3_1 := bc1 BK168; have hcz3_2 := bc2 BK168; have hcz3_3 := bc3 BK168; have hcz3_4 := bc4 BK168; have hfz3_0 := bf BK168 0; have hfz3_1 := bf BK168 1; have hfz3_2 := bf BK168 2; have hfz3_3 := bf BK168 3; have hfz3_4 := bf BK168 4))
 go_loopg [8] k (fun kq v8 w' => ∃ (x8_1 : Int), v8 = .int .i64 x8_1 ∧ Aside0 (impl_ManifestOk.l0 kq l0_0 (l0_0.length : Int) x8_1 l0_0 a0_1 a0_2 a0_3 l0_4 = some r) ∧ Aside0 (kq ≤ k) ∧ Aside0 (w'.heap[gb168]? = some (.cells #[(.slice A0_0 l0_0.length c0_0), .int .i64 a0_1, .int .i64 a0_2, .int .i64 a0_3, (.slice A0_4 l0_4.length c0_4)] 36 (0, 0))) ∧ Aside0 (Below w.heap.size w w'))
 case atStart => exact ⟨(0), t6_, H', ⟨Nat.le_refl _⟩, ⟨zN BK168⟩, ⟨t9_⟩⟩
 case round =>
  clear H'
  try clear p2
  try clear hcz3_0
  try clear hcz3_1
  try clear hcz3_2
  try clear hcz3_3
  try clear hcz3_4
  try clear hfz3_0
  try clear hfz3_1
  try clear hfz3_2
  try clear hfz3_3
  try clear hfz3_4
  obtain ⟨x8_1, rfl, HA, HK1, BK168, HB⟩ := hrel
  cases gk with
  | zero => exact absurd HA.out (by simp [impl_ManifestOk.l0])
  | succ k1 =>
   have H := HA.out; clear HA; simp only [impl_ManifestOk.l0] at H; by_cases c4 : x8_1 < (l0_0.length : Int)
   · rw [if_pos c4] at H; have c4b0 : decide (x8_1 < (l0_0.length : Int)) = true := decide_eq_true c4; clear c4; by_cases c5 : 0 ≤ x8_1
     · rw [if_pos c5] at H; have c5b0 : decide (0 ≤ x8_1) = true := decide_eq_true c5; clear c5; by_cases c6 : x8_1 < (l0_0.length : Int)
       · rw [if_pos c6] at H; have c6b0 : decide (x8_1 < (l0_0.length : Int)) = true := decide_eq_true c6; clear c6; replace H := Option.bind_eq_some_iff.mp H; obtain ⟨t170, A70, H⟩ := H; replace H : (if t170 = true then (if (rd l0_0 x8_1) ≥ a0_1 then (some false) else (if x8_1 > 0 then (if 0 ≤ (wrap64 (x8_1 - 1)) then (if (wrap64 (x8_1 - 1)) < (l0_0.length : Int) then (if (rd l0_0 (wrap64 (x8_1 - 1))) ≥ (rd l0_0 x8_1) then (some false) else (impl_ManifestOk.l0 k1 l0_0 (l0_0.length : Int) (wrap64 (x8_1 + 1)) l0_0 a0_1 a0_2 a0_3 l0_4)) else (none)) else (none)) else (impl_ManifestOk.l0 k1 l0_0 (l0_0.length : Int) (wrap64 (x8_1 + 1)) l0_0 a0_1 a0_2 a0_3 l0_4))) else (some false)) = some r := H; have A7 := Aside0.mk A70; clear A70; by_cases c8 : t170 = true
         · subst c8; have H1 : (if (rd l0_0 x8_1) ≥ a0_1 then (some false) else (if x8_1 > 0 then (if 0 ≤ (wrap64 (x8_1 - 1)) then (if (wrap64 (x8_1 - 1)) < (l0_0.length : Int) then (if (rd l0_0 (wrap64 (x8_1 - 1))) ≥ (rd l0_0 x8_1) then (some false) else (impl_ManifestOk.l0 k1 l0_0 (l0_0.length : Int) (wrap64 (x8_1 + 1)) l0_0 a0_1 a0_2 a0_3 l0_4)) else (none)) else (none)) else (impl_ManifestOk.l0 k1 l0_0 (l0_0.length : Int) (wrap64 (x8_1 + 1)) l0_0 a0_1 a0_2 a0_3 l0_4))) = some r := by rw [if_pos rfl] at H; exact H
           clear H; have H := H1; clear H1; by_cases c9 : (rd l0_0 x8_1) ≥ a0_1
           · rw [if_pos c9] at H; have c9b0 : decide (a0_1 ≤ (rd l0_0 x8_1)) = true := decide_eq_true c9; clear c9; obtain rfl := Option.some.inj H; have p169 : 0 ≤ (x8_1 : Int) := of_decide_eq_true t3_; have q169 : x8_1 < (l0_0.length : Int) := of_decide_eq_true t3_; obtain ⟨ad169, e169, hx169_0⟩ := Kd.at_int HR0_0.out x8_1 p169 q169
             cases e169
             replace hx169_0 := cW HB hx169_0; replace p169 := eq_true p169; replace q169 := eq_true q169
             go_wp2_with (first | ((with_reducible refine gate_callee (f := 68) rfl ?_); refine goesL_ (some 14) rfl rfl Try.func68 (by kernel_rfl) rfl #[.int .i64 (rd l0_0 x8_1), .int .i64 0, .int .i64 999] rfl t1_ ?_; (with_reducible refine (impl_within.calls (rd l0_0 x8_1) 0 999 true _ A7.out).mono ?_); rintro e w' ⟨rfl, ⟨nd, rfl⟩⟩; refine ⟨_, rfl, ?_⟩; have hcz10_0 := bc0 BK168; have hcz10_1 := bc1 BK168; have hcz10_2 := bc2 BK168; have hcz10_3 := bc3 BK168; have hcz10_4 := bc4 BK168; have hfz10_0 := bf BK168 0; have hfz10_1 := bf BK168 1; have hfz10_2 := bf BK168 2; have hfz10_3 := bf BK168 3; have hfz10_4 := bf BK168 4))
             go_ret; exact ⟨by first | rfl | (simp [errW_none, errW_some] <;> rfl) | (simp [*, errW_none, errW_some] <;> rfl), t9_⟩
           · rw [if_neg c9] at H; have c9b0 : decide (a0_1 ≤ (rd l0_0 x8_1)) = false := decide_eq_false c9; clear c9; by_cases c11 : x8_1 > 0
             · rw [if_pos c11] at H; have c11b0 : decide (0 < x8_1) = true := decide_eq_true c11; clear c11; obtain ⟨ji12, hji12⟩ : ∃ j_ : Int, (wrap64 (x8_1 - 1)) = j_ := ⟨_, rfl⟩; replace H : (if 0 ≤ (ji12) then (if (ji12) < (l0_0.length : Int) then (if (rd l0_0 (ji12)) ≥ (rd l0_0 x8_1) then (some false) else (impl_ManifestOk.l0 k1 l0_0 (l0_0.length : Int) (wrap64 (x8_1 + 1)) l0_0 a0_1 a0_2 a0_3 l0_4)) else (none)) else (none)) = some r := by first | (rw [hji12] at H; exact H) | (simp only [hji12] at H ⊢; exact H)
               (try rw [hji12] at A7)
               have hji12w : (IntKind.i64.wrap (x8_1 - 1)) = ji12 := (i64_w _).trans hji12; by_cases c13 : 0 ≤ (ji12)
               · rw [if_pos c13] at H; have c13b0 : decide (0 ≤ (ji12)) = true := decide_eq_true c13; clear c13; by_cases c14 : (ji12) < (l0_0.length : Int)
                 · rw [if_pos c14] at H; have c14b0 : decide ((ji12) < (l0_0.length : Int)) = true := decide_eq_true c14; clear c14; by_cases c15 : (rd l0_0 (ji12)) ≥ (rd l0_0 x8_1)
                   · rw [if_pos c15] at H; have c15b0 : decide ((rd l0_0 x8_1) ≤ (rd l0_0 (ji12))) = true := decide_eq_true c15; clear c15; obtain rfl := Option.some.inj H; have p169 : 0 ≤ (x8_1 : Int) := of_decide_eq_true t3_; have q169 : x8_1 < (l0_0.length : Int) := of_decide_eq_true t3_; obtain ⟨ad169, e169, hx169_0⟩ := Kd.at_int HR0_0.out x8_1 p169 q169
                     cases e169
                     replace hx169_0 := cW HB hx169_0; replace p169 := eq_true p169; replace q169 := eq_true q169
                     go_wp2_with (first | ((with_reducible refine gate_callee (f := 68) rfl ?_); refine goesL_ (some 14) rfl rfl Try.func68 (by kernel_rfl) rfl #[.int .i64 (rd l0_0 x8_1), .int .i64 0, .int .i64 999] rfl t1_ ?_; (with_reducible refine (impl_within.calls (rd l0_0 x8_1) 0 999 true _ A7.out).mono ?_); rintro e w' ⟨rfl, ⟨nd, rfl⟩⟩; refine ⟨_, rfl, ?_⟩; have hcz16_0 := bc0 BK168; have hcz16_1 := bc1 BK168; have hcz16_2 := bc2 BK168; have hcz16_3 := bc3 BK168; have hcz16_4 := bc4 BK168; have hfz16_0 := bf BK168 0; have hfz16_1 := bf BK168 1; have hfz16_2 := bf BK168 2; have hfz16_3 := bf BK168 3; have hfz16_4 := bf BK168 4; have p171 : 0 ≤ ((ji12) : Int) := of_decide_eq_true t3_; have q171 : (ji12) < (l0_0.length : Int) := of_decide_eq_true t3_; obtain ⟨ad171, e171, hx171_0⟩ := Kd.at_int HR0_0.out (ji12) p171 q171; obtain rfl : ad169 = ad171 := (by injection e171); replace hx171_0 := cW HB hx171_0; replace p171 := eq_true p171; replace q171 := eq_true q171))
                     go_ret; exact ⟨by first | rfl | (simp [errW_none, errW_some] <;> rfl) | (simp only [← hji12]; first | rfl | (simp [errW_none, errW_some] <;> rfl)) | (simp [*, errW_none, errW_some] <;> rfl), t9_⟩
                   · rw [if_neg c15] at H; have c15b0 : decide ((rd l0_0 x8_1) ≤ (rd l0_0 (ji12))) = false := decide_eq_false c15; clear c15; have H' := Aside0.mk H; clear H; have p169 : 0 ≤ (x8_1 : Int) := of_decide_eq_true t3_; have q169 : x8_1 < (l0_0.length : Int) := of_decide_eq_true t3_; obtain ⟨ad169, e169, hx169_0⟩ := Kd.at_int HR0_0.out x8_1 p169 q169
                     cases e169
                     replace hx169_0 := cW HB hx169_0; replace p169 := eq_true p169; replace q169 := eq_true q169
                     go_wp2_with (first | ((with_reducible refine gate_callee (f := 68) rfl ?_); refine goesL_ (some 14) rfl rfl Try.func68 (by kernel_rfl) rfl #[.int .i64 (rd l0_0 x8_1), .int .i64 0, .int .i64 999] rfl t1_ ?_; (with_reducible refine (impl_within.calls (rd l0_0 x8_1) 0 999 true _ A7.out).mono ?_); rintro e w' ⟨rfl, ⟨nd, rfl⟩⟩; refine ⟨_, rfl, ?_⟩; have hcz17_0 := bc0 BK168; have hcz17_1 := bc1 BK168; have hcz17_2 := bc2 BK168; have hcz17_3 := bc3 BK168; have hcz17_4 := bc4 BK168; have hfz17_0 := bf BK168 0; have hfz17_1 := bf BK168 1; have hfz17_2 := bf BK168 2; have hfz17_3 := bf BK168 3; have hfz17_4 := bf BK168 4; have p171 : 0 ≤ ((ji12) : Int) := of_decide_eq_true t3_; have q171 : (ji12) < (l0_0.length : Int) := of_decide_eq_true t3_; obtain ⟨ad171, e171, hx171_0⟩ := Kd.at_int HR0_0.out (ji12) p171 q171; obtain rfl : ad169 = ad171 := (by injection e171); replace hx171_0 := cW HB hx171_0; replace p171 := eq_true p171; replace q171 := eq_true q171))
                     go_roundg k1
                     case measure => have := HK1.out; omega
                     case rel => exact ⟨(wrap64 (x8_1 + 1)), t6_, H', ⟨by have := HK1.out; omega⟩, ⟨zN BK168⟩, ⟨t9_⟩⟩
                 · rw [if_neg c14] at H; exact absurd H (by simp)
               · rw [if_neg c13] at H; exact absurd H (by simp)
             · rw [if_neg c11] at H; have c11b0 : decide (0 < x8_1) = false := decide_eq_false c11; clear c11; have H' := Aside0.mk H; clear H; have p169 : 0 ≤ (x8_1 : Int) := of_decide_eq_true t3_; have q169 : x8_1 < (l0_0.length : Int) := of_decide_eq_true t3_; obtain ⟨ad169, e169, hx169_0⟩ := Kd.at_int HR0_0.out x8_1 p169 q169
               cases e169
               replace hx169_0 := cW HB hx169_0; replace p169 := eq_true p169; replace q169 := eq_true q169
               go_wp2_with (first | ((with_reducible refine gate_callee (f := 68) rfl ?_); refine goesL_ (some 14) rfl rfl Try.func68 (by kernel_rfl) rfl #[.int .i64 (rd l0_0 x8_1), .int .i64 0, .int .i64 999] rfl t1_ ?_; (with_reducible refine (impl_within.calls (rd l0_0 x8_1) 0 999 true _ A7.out).mono ?_); rintro e w' ⟨rfl, ⟨nd, rfl⟩⟩; refine ⟨_, rfl, ?_⟩; have hcz18_0 := bc0 BK168; have hcz18_1 := bc1 BK168; have hcz18_2 := bc2 BK168; have hcz18_3 := bc3 BK168; have hcz18_4 := bc4 BK168; have hfz18_0 := bf BK168 0; have hfz18_1 := bf BK168 1; have hfz18_2 := bf BK168 2; have hfz18_3 := bf BK168 3; have hfz18_4 := bf BK168 4))
               go_roundg k1
               case measure => have := HK1.out; omega
               case rel => exact ⟨(wrap64 (x8_1 + 1)), t6_, H', ⟨by have := HK1.out; omega⟩, ⟨zN BK168⟩, ⟨t9_⟩⟩
         · replace c8 := Bool.eq_false_iff.mpr c8; subst c8; have H1 : (some false) = some r := by rw [if_neg (show ¬ (false = true) by decide)] at H; exact H
           clear H; have H := H1; clear H1; obtain rfl := Option.some.inj H; have p169 : 0 ≤ (x8_1 : Int) := of_decide_eq_true t3_; have q169 : x8_1 < (l0_0.length : Int) := of_decide_eq_true t3_; obtain ⟨ad169, e169, hx169_0⟩ := Kd.at_int HR0_0.out x8_1 p169 q169
           cases e169
           replace hx169_0 := cW HB hx169_0; replace p169 := eq_true p169; replace q169 := eq_true q169
           go_wp2_with (first | ((with_reducible refine gate_callee (f := 68) rfl ?_); refine goesL_ (some 14) rfl rfl Try.func68 (by kernel_rfl) rfl #[.int .i64 (rd l0_0 x8_1), .int .i64 0, .int .i64 999] rfl t1_ ?_; (with_reducible refine (impl_within.calls (rd l0_0 x8_1) 0 999 false _ A7.out).mono ?_); rintro e w' ⟨rfl, ⟨nd, rfl⟩⟩; refine ⟨_, rfl, ?_⟩))
           go_ret; exact ⟨by first | rfl | (simp [errW_none, errW_some] <;> rfl) | (simp [*, errW_none, errW_some] <;> rfl), t9_⟩
       · rw [if_neg c6] at H; exact absurd H (by simp)
     · rw [if_neg c5] at H; exact absurd H (by simp)
   · rw [if_neg c4] at H; have c4b0 : decide (x8_1 < (l0_0.length : Int)) = false := decide_eq_false c4; clear c4; replace H := Option.bind_eq_some_iff.mp H; obtain ⟨t172, A190, H⟩ := H; replace H : (if t172 = true then (if a0_1 ≤ 1000 then ((impl_within.f a0_2 0 100000).bind fun t173 => (if t173 = true then ((impl_within.f a0_3 0 100000).bind fun t174 => (if t174 = true then ((impl_ConfOk.f k1 l0_4).bind fun t175 => (some t175)) else (some false))) else (some false))) else (some false)) else (some false)) = some r := H; have A19 := Aside0.mk A190; clear A190; by_cases c20 : t172 = true
     · subst c20; have H1 : (if a0_1 ≤ 1000 then ((impl_within.f a0_2 0 100000).bind fun t173 => (if t173 = true then ((impl_within.f a0_3 0 100000).bind fun t174 => (if t174 = true then ((impl_ConfOk.f k1 l0_4).bind fun t175 => (some t175)) else (some false))) else (some false))) else (some false)) = some r := by rw [if_pos rfl] at H; exact H
       clear H; have H := H1; clear H1; by_cases c21 : a0_1 ≤ 1000
       · rw [if_pos c21] at H; have c21b0 : decide (a0_1 ≤ 1000) = true := decide_eq_true c21; clear c21; replace H := Option.bind_eq_some_iff.mp H; obtain ⟨t173, A220, H⟩ := H; replace H : (if t173 = true then ((impl_within.f a0_3 0 100000).bind fun t174 => (if t174 = true then ((impl_ConfOk.f k1 l0_4).bind fun t175 => (some t175)) else (some false))) else (some false)) = some r := H; have A22 := Aside0.mk A220; clear A220; by_cases c23 : t173 = true
         · subst c23; have H1 : ((impl_within.f a0_3 0 100000).bind fun t174 => (if t174 = true then ((impl_ConfOk.f k1 l0_4).bind fun t175 => (some t175)) else (some false))) = some r := by rw [if_pos rfl] at H; exact H
           clear H; have H := H1; clear H1; replace H := Option.bind_eq_some_iff.mp H; obtain ⟨t174, A240, H⟩ := H; replace H : (if t174 = true then ((impl_ConfOk.f k1 l0_4).bind fun t175 => (some t175)) else (some false)) = some r := H; have A24 := Aside0.mk A240; clear A240; by_cases c25 : t174 = true
           · subst c25; have H1 : ((impl_ConfOk.f k1 l0_4).bind fun t175 => (some t175)) = some r := by rw [if_pos rfl] at H; exact H
             clear H; have H := H1; clear H1; replace H := Option.bind_eq_some_iff.mp H; obtain ⟨t175, A260, H⟩ := H; replace H : (some t175) = some r := H; have A26 := Aside0.mk A260; clear A260; obtain rfl := Option.some.inj H; have hcz27_0 := bc0 BK168; have hcz27_1 := bc1 BK168; have hcz27_2 := bc2 BK168; have hcz27_3 := bc3 BK168; have hcz27_4 := bc4 BK168; have hfz27_0 := bf BK168 0; have hfz27_1 := bf BK168 1; have hfz27_2 := bf BK168 2; have hfz27_3 := bf BK168 3; have hfz27_4 := bf BK168 4
             go_wp2_with (first | ((with_reducible refine gate_callee (f := 68) rfl ?_); refine goesL_ (some 40) rfl rfl Try.func68 (by kernel_rfl) rfl #[.int .i64 (l0_0.length : Int), .int .i64 1, .int .i64 8] rfl t1_ ?_; (with_reducible refine (impl_within.calls (l0_0.length : Int) 1 8 true _ A19.out).mono ?_); rintro e w' ⟨rfl, ⟨nd, rfl⟩⟩; refine ⟨_, rfl, ?_⟩) | (go_at_call 68; (with_reducible refine (impl_within.calls a0_2 0 100000 true _ A22.out).mono ?_); rintro e w' ⟨rfl, ⟨nd, rfl⟩⟩) | (go_at_call 68; (with_reducible refine (impl_within.calls a0_3 0 100000 true _ A24.out).mono ?_); rintro e w' ⟨rfl, ⟨nd, rfl⟩⟩) | (go_at_call 81; (with_reducible refine (impl_ConfOk.calls k1 _ _ l0_4 t175 _ ?side1 ?side2 A26.out).mono ?_); (case side1 => repeat (first | exact (Kd.C_below HR0_4.out t9_) | (with_reducible refine Kd.C_alloc ?_ _) | (with_reducible refine Kd.C_drewN ?_ _) | (with_reducible refine Kd.C_drew ?_))); (case side2 => exact HC0_4.out); rintro e w' ⟨rfl, ⟨nd, rfl⟩⟩))
             go_ret; exact ⟨by first | rfl | (simp [errW_none, errW_some] <;> rfl) | (simp [*, errW_none, errW_some] <;> rfl), t9_⟩
           · replace c25 := Bool.eq_false_iff.mpr c25; subst c25; have H1 : (some false) = some r := by rw [if_neg (show ¬ (false = true) by decide)] at H; exact H
             clear H; have H := H1; clear H1; obtain rfl := Option.some.inj H; have hcz28_0 := bc0 BK168; have hcz28_1 := bc1 BK168; have hcz28_2 := bc2 BK168; have hcz28_3 := bc3 BK168; have hcz28_4 := bc4 BK168; have hfz28_0 := bf BK168 0; have hfz28_1 := bf BK168 1; have hfz28_2 := bf BK168 2; have hfz28_3 := bf BK168 3; have hfz28_4 := bf BK168 4
             go_wp2_with (first | ((with_reducible refine gate_callee (f := 68) rfl ?_); refine goesL_ (some 40) rfl rfl Try.func68 (by kernel_rfl) rfl #[.int .i64 (l0_0.length : Int), .int .i64 1, .int .i64 8] rfl t1_ ?_; (with_reducible refine (impl_within.calls (l0_0.length : Int) 1 8 true _ A19.out).mono ?_); rintro e w' ⟨rfl, ⟨nd, rfl⟩⟩; refine ⟨_, rfl, ?_⟩) | (go_at_call 68; (with_reducible refine (impl_within.calls a0_2 0 100000 true _ A22.out).mono ?_); rintro e w' ⟨rfl, ⟨nd, rfl⟩⟩) | (go_at_call 68; (with_reducible refine (impl_within.calls a0_3 0 100000 false _ A24.out).mono ?_); rintro e w' ⟨rfl, ⟨nd, rfl⟩⟩))
             go_ret; exact ⟨by first | rfl | (simp [errW_none, errW_some] <;> rfl) | (simp [*, errW_none, errW_some] <;> rfl), t9_⟩
         · replace c23 := Bool.eq_false_iff.mpr c23; subst c23; have H1 : (some false) = some r := by rw [if_neg (show ¬ (false = true) by decide)] at H; exact H
           clear H; have H := H1; clear H1; obtain rfl := Option.some.inj H; have hcz29_0 := bc0 BK168; have hcz29_1 := bc1 BK168; have hcz29_2 := bc2 BK168; have hcz29_3 := bc3 BK168; have hcz29_4 := bc4 BK168; have hfz29_0 := bf BK168 0; have hfz29_1 := bf BK168 1; have hfz29_2 := bf BK168 2; have hfz29_3 := bf BK168 3; have hfz29_4 := bf BK168 4
           go_wp2_with (first | ((with_reducible refine gate_callee (f := 68) rfl ?_); refine goesL_ (some 40) rfl rfl Try.func68 (by kernel_rfl) rfl #[.int .i64 (l0_0.length : Int), .int .i64 1, .int .i64 8] rfl t1_ ?_; (with_reducible refine (impl_within.calls (l0_0.length : Int) 1 8 true _ A19.out).mono ?_); rintro e w' ⟨rfl, ⟨nd, rfl⟩⟩; refine ⟨_, rfl, ?_⟩) | (go_at_call 68; (with_reducible refine (impl_within.calls a0_2 0 100000 false _ A22.out).mono ?_); rintro e w' ⟨rfl, ⟨nd, rfl⟩⟩))
           go_ret; exact ⟨by first | rfl | (simp [errW_none, errW_some] <;> rfl) | (simp [*, errW_none, errW_some] <;> rfl), t9_⟩
       · rw [if_neg c21] at H; have c21b0 : decide (a0_1 ≤ 1000) = false := decide_eq_false c21; clear c21; obtain rfl := Option.some.inj H; have hcz30_0 := bc0 BK168; have hcz30_1 := bc1 BK168; have hcz30_2 := bc2 BK168; have hcz30_3 := bc3 BK168; have hcz30_4 := bc4 BK168; have hfz30_0 := bf BK168 0; have hfz30_1 := bf BK168 1; have hfz30_2 := bf BK168 2; have hfz30_3 := bf BK168 3; have hfz30_4 := bf BK168 4
         go_wp2_with (first | ((with_reducible refine gate_callee (f := 68) rfl ?_); refine goesL_ (some 40) rfl rfl Try.func68 (by kernel_rfl) rfl #[.int .i64 (l0_0.length : Int), .int .i64 1, .int .i64 8] rfl t1_ ?_; (with_reducible refine (impl_within.calls (l0_0.length : Int) 1 8 true _ A19.out).mono ?_); rintro e w' ⟨rfl, ⟨nd, rfl⟩⟩; refine ⟨_, rfl, ?_⟩))
         go_ret; exact ⟨by first | rfl | (simp [errW_none, errW_some] <;> rfl) | (simp [*, errW_none, errW_some] <;> rfl), t9_⟩
     · replace c20 := Bool.eq_false_iff.mpr c20; subst c20; have H1 : (some false) = some r := by rw [if_neg (show ¬ (false = true) by decide)] at H; exact H
       clear H; have H := H1; clear H1; obtain rfl := Option.some.inj H; have hcz31_0 := bc0 BK168; have hcz31_1 := bc1 BK168; have hcz31_2 := bc2 BK168; have hcz31_3 := bc3 BK168; have hcz31_4 := bc4 BK168; have hfz31_0 := bf BK168 0; have hfz31_1 := bf BK168 1; have hfz31_2 := bf BK168 2; have hfz31_3 := bf BK168 3; have hfz31_4 := bf BK168 4
       go_wp2_with (first | ((with_reducible refine gate_callee (f := 68) rfl ?_); refine goesL_ (some 40) rfl rfl Try.func68 (by kernel_rfl) rfl #[.int .i64 (l0_0.length : Int), .int .i64 1, .int .i64 8] rfl t1_ ?_; (with_reducible refine (impl_within.calls (l0_0.length : Int) 1 8 false _ A19.out).mono ?_); rintro e w' ⟨rfl, ⟨nd, rfl⟩⟩; refine ⟨_, rfl, ?_⟩))
       go_ret; exact ⟨by first | rfl | (simp [errW_none, errW_some] <;> rfl) | (simp [*, errW_none, errW_some] <;> rfl), t9_⟩

/-! ### slices_Grow_int_int: function 82 -/
/-- What the row that is to grow is: nothing (nil). -/
def slices_Grow_int_int.arg (w : World) (A0 : Option Addr) (c0 : Nat) (l0 : List Int) : Prop := match A0 with
 | none => Kd.C (Kd.int .i64) w none c0 l0
 | some _ => False
def slices_Grow_int_int.f (l0 : List Int) (a1 : Int) : Option (List Int) := if 0 < a1 then (if a1 ≤ 1048576 then some [] else none) else none
set_option maxHeartbeats 8000000 in
set_option maxRecDepth 100000 in
theorem slices_Grow_int_int.calls (A0 : Option Addr) (c0 : Nat) (l0 : List Int) (a1 : Int) (r : List Int) (w : World) (hr0 : slices_Grow_int_int.arg w A0 c0 l0) (hc0 : l0.length ≤ c0) (h : slices_Grow_int_int.f l0 a1 = some r) :
 Calls Try.prog 82 #[.slice A0 l0.length c0, .int .i64 a1] w fun e w' => ∃ v0_ : Value, e = .returned v0_ ∧ Kd.R (Kd.int .i64) 3 w' w.heap.size (fun _ => True) v0_ r ∧ Below w.heap.size w w' := by
 have hu25 := Try.underlying25
 unfold slices_Grow_int_int.f at h
 by_cases h1 : 0 < a1
 rotate_left
 · rw [if_neg h1] at h; exact absurd h (by simp)
 rw [if_pos h1] at h; by_cases h2 : a1 ≤ 1048576
 rotate_left
 · rw [if_neg h2] at h; exact absurd h (by simp)
 rw [if_pos h2] at h; obtain rfl := Option.some.inj h; clear h
 cases A0 with
 | some a => exact hr0.elim
 | none =>
  have hl : l0 = [] := by
   rcases Nat.eq_zero_or_pos l0.length with h0 | h0
   · exact List.eq_nil_of_length_eq_zero h0
   · obtain ⟨hn, -, hx⟩ := (hr0 : Kd.C (Kd.int .i64) w none c0 l0); obtain ⟨ad, h, _⟩ := hx (by omega)
     cases h
  subst hl
  have hcz : c0 = 0 := by
   obtain ⟨hn, -, -⟩ := (hr0 : Kd.C (Kd.int .i64) w none c0 []); exact hn.symm
  subst hcz; clear hr0 hc0; have h3 : ¬ (a1 < 0) := by omega
  have h4 : a1 > 0 := h1; have w1 : wrap64 (((0 : Nat) : Int) - ((0 : Nat) : Int)) = 0 := by unfold wrap64; omega
  have w2 : wrap64 (a1 - 0) = a1 := by unfold wrap64; omega
  have HL : ((([] : List Int).length + a1.toNat) * 8 ≤ 140737488355328) := by simp; omega
  go_enter Try.func82, Try.ntmps82
  go_wp2_with (first | ((with_reducible refine gate_builtin (b := .append) (xs := #[.tmp 20, .tmp 21]) rfl ?_); at_builtin; refine Kd.R_append_zeros (Kd.int .i64) (w0 := w) w.heap.size rfl (.tmp 20) (.tmp 21) 25 3 3 (.int .i64 0) 8 rfl Try.underlying25 Try.underlying3 (by kernel_rfl) rfl (by decide) (by omega) (.slice none 0 0) [] 0 a1 (fun _ => True) rfl rfl rfl (fun _ _ => trivial) (Kd.R_nil _ _ _ _ _) (by omega) (Below.refl _ _) (Nat.le_refl _) HL ?_; intro v1 w3 ho1 hb1 hg1 hat1; clear hg1 hat1; obtain ⟨A1, c1, rfl⟩ := Kd.R_slice ho1; have hc1 := (Kd.R_reads' ho1).2.1; have HO := Aside0.mk (Kd.R_take (m := 0) ho1 (Nat.zero_le _)); have HB := Aside0.mk hb1; clear ho1 hb1; cases A1))
  all_goals (go_ret; exact ⟨_, rfl, HO.out, HB.out⟩)

end Go.Proofs.Ytpnncgfmihjlkaa.QFnExactManifestText
