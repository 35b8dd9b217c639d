-- By a program of this session, over the kit's print.
import Derived.Test.YtpjhbhjmaggheaaQFnTornx0
namespace Go.Proofs.Ytpjhbhjmaggheaa.QFnTorn
open Go.RowKit Go.Proofs.YtpjhbhjmaggheaaW.PrintWords Go.Proofs.YtpjhbhjmaggheaaW.PrintLast Go.Proofs.YtpjhbhjmaggheaaW.PrintMore
attribute [local go_sem] max2_int min2_int max_two min_two max_three min_three max_four min_four   -- for this text's walks alone
set_option linter.unusedVariables false
set_option linter.unusedSimpArgs false

/-! ### spec_l03At: function 86 -/
def spec_l03At.l0 : Nat → ByteArray → Int → List (S71) → Option (Int)
 | 0, _, _, _ => none
 | k + 1, x1, x5, x245000 => if x5 < (x245000.length : Int) then (if 0 ≤ x5 then (if ((rd_T71 x245000 x5).f0).toList = x1.toList then (some x5) else (spec_l03At.l0 k x1 (wrap64 (x5 + 1)) x245000)) else (none)) else (some (-1))
def spec_l03At.f (k : Nat) (l0_0 : List (S71)) (a1 : ByteArray) : Option (Int) := spec_l03At.l0 k a1 0 l0_0
theorem spec_l03At.mono_l : ∀ k, (∀ y0 y1 y2, LeO (spec_l03At.l0 k y0 y1 y2) (spec_l03At.l0 (k + 1) y0 y1 y2))
 | 0 => fun _ _ _ r h => by simp [spec_l03At.l0] at h
 | k + 1 => by
  have ih0 := spec_l03At.mono_l k
  · intro y0 y1 y2
    unfold spec_l03At.l0
    repeat' first
    | (with_reducible exact ih0 _ _ _)
    | (with_reducible exact LeO.refl _)
    | (with_reducible exact LeO.none _)
    | (with_reducible refine LeO.ite ?_ ?_)
    | (with_reducible refine LeO.bind ?_ (fun _ => ?_))
    | exact ih0 _ _ _
    | exact LeO.none _
    | refine LeO.ite ?_ ?_
    | refine LeO.bind ?_ (fun _ => ?_)
theorem spec_l03At.mono : ∀ a0 a1 k, LeO (spec_l03At.f k a0 a1) (spec_l03At.f (k + 1) a0 a1) := by
 intro a0 a1 k; have ih0 := spec_l03At.mono_l k
 unfold spec_l03At.f
 repeat' first
  | (with_reducible exact ih0 _ _ _)
  | (with_reducible exact LeO.refl _)
  | (with_reducible exact LeO.none _)
  | (with_reducible refine LeO.ite ?_ ?_)
  | (with_reducible refine LeO.bind ?_ (fun _ => ?_))
  | exact ih0 _ _ _
  | exact LeO.none _
  | refine LeO.ite ?_ ?_
  | refine LeO.bind ?_ (fun _ => ?_)
set_option maxHeartbeats 8000000 in
set_option maxRecDepth 100000 in
theorem spec_l03At.calls (k : Nat) (A0_0 : Option Addr) (c0_0 : Nat) (l0_0 : List (S71)) (a1 : ByteArray) (r : Int) (w : World) (hr0_0 : Kd.C k71 w A0_0 l0_0.length l0_0) (hc0_0 : l0_0.length ≤ c0_0) (h : spec_l03At.f k l0_0 a1 = some r) :
 Calls Try.prog 86 #[.agg #[.slice A0_0 l0_0.length c0_0], .string a1] w fun e w' => e = .returned (.int .i64 r) ∧ Below w.heap.size w w' := by
 have hu30 := Try.underlying30; have HR0_0 := Aside0.mk hr0_0; have HC0_0 := Aside0.mk hc0_0; clear hr0_0 hc0_0; have HB := Aside0.mk (Below.refl w.heap.size w); have H : (spec_l03At.l0 k a1 0 l0_0) = some r := h; clear h; have H' := Aside0.mk H; clear H; go_enter Try.func86, Try.ntmps86
 go_wp2_with (first | ((with_reducible refine gate_dst (N := 2) rfl ?_); refine boxE (N := 2) (cs := #[.slice A0_0 l0_0.length c0_0]) (t := 30) (h := ?_); intro gb244 hg w3 hbox hb; have BK244 := Aside0.mk (hbox); have GW244 := Aside0.mk ((t5_ : w.heap.size ≤ gb244)); have GE244 := GW244; replace HB := bS t2_ hb; clear hb hbox hg))
 go_loopg [5] k (fun kq v5 w' => ∃ (x5_1 : Int), v5 = .int .i64 x5_1 ∧ Aside0 (spec_l03At.l0 kq a1 x5_1 l0_0 = some r) ∧ Aside0 (kq ≤ k) ∧ Aside0 (w'.heap[gb244]? = some (.cells #[(.slice A0_0 l0_0.length c0_0)] 30 (0, 0))) ∧ Aside0 (Below w.heap.size w w'))
 case atStart => exact ⟨(0), t27_, H', ⟨Nat.le_refl _⟩, ⟨zN BK244⟩, ⟨t88_⟩⟩
 case round =>
  clear H'
  try clear p2
  obtain ⟨x5_1, rfl, HA, HK1, BK244, HB⟩ := hrel
  cases gk with
  | zero => exact absurd HA.out (by simp [spec_l03At.l0])
  | succ k1 =>
   have H := HA.out; clear HA; simp only [spec_l03At.l0] at H; by_cases c4 : x5_1 < (l0_0.length : Int)
   · rw [if_pos c4] at H; have c4b0 : decide (x5_1 < (l0_0.length : Int)) = true := decide_eq_true c4; clear c4; by_cases c5 : 0 ≤ x5_1
     · rw [if_pos c5] at H; have c5b0 : decide (0 ≤ x5_1) = true := decide_eq_true c5; clear c5; by_cases c6 : ((rd_T71 l0_0 x5_1).f0).toList = a1.toList
       · rw [if_pos c6] at H; have c6b0 : (((rd_T71 l0_0 x5_1).f0).toList == a1.toList) = true := beq_iff_eq.mpr c6; have c6b1 : (((rd_T71 l0_0 x5_1).f0).toList != a1.toList) = false := bne_eq_false_iff_eq.mpr c6; clear c6; obtain rfl := Option.some.inj H; obtain ⟨hcz7_0, hfz7_0⟩ := ba1 BK244; have p245 : 0 ≤ (x5_1 : Int) := of_decide_eq_true t7_; have q245 : x5_1 < (l0_0.length : Int) := of_decide_eq_true t7_; obtain ⟨ad245, e245, hx245_0, hx245_1⟩ := at_T71 HR0_0.out x5_1 p245 q245
         cases e245
         replace hx245_0 := cW HB hx245_0; replace hx245_1 := cW HB hx245_1; replace p245 := eq_true p245; replace q245 := eq_true q245; go_wp2; go_ret; exact ⟨by first | rfl | (simp [errW_none, errW_some] <;> rfl) | (simp [*, errW_none, errW_some] <;> rfl), t88_⟩
       · rw [if_neg c6] at H; have c6b0 : (((rd_T71 l0_0 x5_1).f0).toList == a1.toList) = false := beq_eq_false_iff_ne.mpr c6; have c6b1 : (((rd_T71 l0_0 x5_1).f0).toList != a1.toList) = true := bne_iff_ne.mpr c6; have H' := Aside0.mk H; clear H; obtain ⟨hcz8_0, hfz8_0⟩ := ba1 BK244; have p245 : 0 ≤ (x5_1 : Int) := of_decide_eq_true t7_; have q245 : x5_1 < (l0_0.length : Int) := of_decide_eq_true t7_; obtain ⟨ad245, e245, hx245_0, hx245_1⟩ := at_T71 HR0_0.out x5_1 p245 q245
         cases e245
         replace hx245_0 := cW HB hx245_0; replace hx245_1 := cW HB hx245_1; replace p245 := eq_true p245; replace q245 := eq_true q245; go_wp2
         go_roundg k1
         case measure => have := HK1.out; omega
         case rel => exact ⟨(wrap64 (x5_1 + 1)), t27_, H', ⟨by have := HK1.out; omega⟩, ⟨zN BK244⟩, ⟨t88_⟩⟩
     · rw [if_neg c5] at H; exact absurd H (by simp)
   · rw [if_neg c4] at H; have c4b0 : decide (x5_1 < (l0_0.length : Int)) = false := decide_eq_false c4; clear c4; obtain rfl := Option.some.inj H; obtain ⟨hcz9_0, hfz9_0⟩ := ba1 BK244; go_wp2; go_ret; exact ⟨by first | rfl | (simp [errW_none, errW_some] <;> rfl) | (simp [*, errW_none, errW_some] <;> rfl), t88_⟩

/-! ### spec_l03Text: function 87 -/
def spec_l03Text.f (k : Nat) (l0_0 : List (S71)) (a1 : ByteArray) : Option (ByteArray) := (spec_l03At.f k l0_0 a1).bind fun t247 => (if t247 < 0 then (some (⟨#[]⟩ : ByteArray)) else (if 0 ≤ t247 then (if t247 < (l0_0.length : Int) then (some ((rd_T71 l0_0 t247).f1)) else (none)) else (none)))
theorem spec_l03Text.mono : ∀ a0 a1 k, LeO (spec_l03Text.f k a0 a1) (spec_l03Text.f (k + 1) a0 a1) := by
 intro a0 a1 k
 unfold spec_l03Text.f
 repeat' first
  | (with_reducible exact spec_l03At.mono _ _ _)
  | (with_reducible exact LeO.refl _)
  | (with_reducible exact LeO.none _)
  | (with_reducible refine LeO.ite ?_ ?_)
  | (with_reducible refine LeO.bind ?_ (fun _ => ?_))
  | exact spec_l03At.mono _ _ _
  | exact LeO.none _
  | refine LeO.ite ?_ ?_
  | refine LeO.bind ?_ (fun _ => ?_)
set_option maxHeartbeats 8000000 in
set_option maxRecDepth 100000 in
theorem spec_l03Text.calls (k : Nat) (A0_0 : Option Addr) (c0_0 : Nat) (l0_0 : List (S71)) (a1 : ByteArray) (r : ByteArray) (w : World) (hr0_0 : Kd.C k71 w A0_0 l0_0.length l0_0) (hc0_0 : l0_0.length ≤ c0_0) (h : spec_l03Text.f k l0_0 a1 = some r) :
 Calls Try.prog 87 #[.agg #[.slice A0_0 l0_0.length c0_0], .string a1] w fun e w' => e = .returned (.string r) ∧ Below w.heap.size w w' := by
 have hu30 := Try.underlying30; have HR0_0 := Aside0.mk hr0_0; have HC0_0 := Aside0.mk hc0_0; clear hr0_0 hc0_0; have HB := Aside0.mk (Below.refl w.heap.size w); have H : ((spec_l03At.f k l0_0 a1).bind fun t247 => (if t247 < 0 then (some (⟨#[]⟩ : ByteArray)) else (if 0 ≤ t247 then (if t247 < (l0_0.length : Int) then (some ((rd_T71 l0_0 t247).f1)) else (none)) else (none)))) = some r := h; clear h; replace H := Option.bind_eq_some_iff.mp H; obtain ⟨t247, A30, H⟩ := H; replace H : (if t247 < 0 then (some (⟨#[]⟩ : ByteArray)) else (if 0 ≤ t247 then (if t247 < (l0_0.length : Int) then (some ((rd_T71 l0_0 t247).f1)) else (none)) else (none))) = some r := H; have A3 := Aside0.mk A30; clear A30; by_cases c4 : t247 < 0
 · rw [if_pos c4] at H; have c4b0 : decide (t247 < 0) = true := decide_eq_true c4; clear c4; obtain rfl := Option.some.inj H; go_enter Try.func87, Try.ntmps87
   go_wp2_with (first | ((with_reducible refine gate_dst (N := 2) rfl ?_); refine boxE (N := 2) (cs := #[.slice A0_0 l0_0.length c0_0]) (t := 30) (h := ?_); intro gb246 hg w5 hbox hb; have BK246 := Aside0.mk (hbox); have GW246 := Aside0.mk ((t5_ : w.heap.size ≤ gb246)); have GE246 := GW246; replace HB := bS t2_ hb; clear hb hbox hg; obtain ⟨hcz6_0, hfz6_0⟩ := ba1 BK246) | ((with_reducible refine gate_callee (f := 86) rfl ?_); refine goesL_ (some 8) rfl rfl Try.func86 (by kernel_rfl) rfl #[.agg #[.slice A0_0 l0_0.length c0_0], .string a1] rfl t0_ ?_; (with_reducible refine (spec_l03At.calls k _ _ l0_0 a1 t247 _ ?side1 ?side2 A3.out).mono ?_); (case side1 => exact cB HR0_0 HB); (case side2 => exact HC0_0.out); rintro e w7 ⟨rfl, hb⟩; refine ⟨_, rfl, ?_⟩; replace BK246 := bkN BK246 hb; replace HB := bS t89_ hb; (try clear hb)))
   go_ret; exact ⟨by first | rfl | (simp [errW_none, errW_some] <;> rfl) | (simp [*, errW_none, errW_some] <;> rfl), t89_⟩
 · rw [if_neg c4] at H; have c4b0 : decide (t247 < 0) = false := decide_eq_false c4; clear c4; by_cases c8 : 0 ≤ t247
   · rw [if_pos c8] at H; have c8b0 : decide (0 ≤ t247) = true := decide_eq_true c8; clear c8; by_cases c9 : t247 < (l0_0.length : Int)
     · rw [if_pos c9] at H; have c9b0 : decide (t247 < (l0_0.length : Int)) = true := decide_eq_true c9; clear c9; obtain rfl := Option.some.inj H; go_enter Try.func87, Try.ntmps87
       go_wp2_with (first | ((with_reducible refine gate_dst (N := 2) rfl ?_); refine boxE (N := 2) (cs := #[.slice A0_0 l0_0.length c0_0]) (t := 30) (h := ?_); intro gb246 hg w10 hbox hb; have BK246 := Aside0.mk (hbox); have GW246 := Aside0.mk ((t5_ : w.heap.size ≤ gb246)); have GE246 := GW246; replace HB := bS t2_ hb; clear hb hbox hg; obtain ⟨hcz11_0, hfz11_0⟩ := ba1 BK246) | ((with_reducible refine gate_callee (f := 86) rfl ?_); refine goesL_ (some 8) rfl rfl Try.func86 (by kernel_rfl) rfl #[.agg #[.slice A0_0 l0_0.length c0_0], .string a1] rfl t0_ ?_; (with_reducible refine (spec_l03At.calls k _ _ l0_0 a1 t247 _ ?side1 ?side2 A3.out).mono ?_); (case side1 => exact cB HR0_0 HB); (case side2 => exact HC0_0.out); rintro e w12 ⟨rfl, hb⟩; refine ⟨_, rfl, ?_⟩; replace BK246 := bkN BK246 hb; replace HB := bS t89_ hb; (try clear hb); obtain ⟨hcz13_0, hfz13_0⟩ := ba1 BK246; have p248 : 0 ≤ (t247 : Int) := of_decide_eq_true t7_; have q248 : t247 < (l0_0.length : Int) := of_decide_eq_true t7_; obtain ⟨ad248, e248, hx248_0, hx248_1⟩ := at_T71 HR0_0.out t247 p248 q248; cases e248; replace hx248_0 := cW HB hx248_0; replace hx248_1 := cW HB hx248_1; replace p248 := eq_true p248; replace q248 := eq_true q248))
       go_ret; exact ⟨by first | rfl | (simp [errW_none, errW_some] <;> rfl) | (simp [*, errW_none, errW_some] <;> rfl), t89_⟩
     · rw [if_neg c9] at H; exact absurd H (by simp)
   · rw [if_neg c8] at H; exact absurd H (by simp)

/-! ### spec_l03Drop: function 88 -/
def spec_l03Drop.l0 : Nat → ByteArray → Int → List (S71) → List (S71) → Option ((List (S71)))
 | 0, _, _, _, _ => none
 | k + 1, x1, x6, x250000, x252000 => if x6 < (x250000.length : Int) then (if 0 ≤ x6 then (if ((rd_T71 x250000 x6).f0).toList = x1.toList then (spec_l03Drop.l0 k x1 (wrap64 (x6 + 1)) x250000 x252000) else (if x252000.length < 4398046511104 then (spec_l03Drop.l0 k x1 (wrap64 (x6 + 1)) x250000 (x252000 ++ [(⟨(rd_T71 x250000 x6).f0, (rd_T71 x250000 x6).f1⟩ : S71)])) else (none))) else (none)) else (some x252000)
def spec_l03Drop.f (k : Nat) (l0_0 : List (S71)) (a1 : ByteArray) : Option ((List (S71))) := spec_l03Drop.l0 k a1 0 l0_0 ([] : List (S71))
theorem spec_l03Drop.mono_l : ∀ k, (∀ y0 y1 y2 y3, LeO (spec_l03Drop.l0 k y0 y1 y2 y3) (spec_l03Drop.l0 (k + 1) y0 y1 y2 y3))
 | 0 => fun _ _ _ _ r h => by simp [spec_l03Drop.l0] at h
 | k + 1 => by
  have ih0 := spec_l03Drop.mono_l k
  · intro y0 y1 y2 y3
    unfold spec_l03Drop.l0
    repeat' first
    | (with_reducible exact ih0 _ _ _ _)
    | (with_reducible exact LeO.refl _)
    | (with_reducible exact LeO.none _)
    | (with_reducible refine LeO.ite ?_ ?_)
    | (with_reducible refine LeO.bind ?_ (fun _ => ?_))
    | exact ih0 _ _ _ _
    | exact LeO.none _
    | refine LeO.ite ?_ ?_
    | refine LeO.bind ?_ (fun _ => ?_)
theorem spec_l03Drop.mono : ∀ a0 a1 k, LeO (spec_l03Drop.f k a0 a1) (spec_l03Drop.f (k + 1) a0 a1) := by
 intro a0 a1 k; have ih0 := spec_l03Drop.mono_l k
 unfold spec_l03Drop.f
 repeat' first
  | (with_reducible exact ih0 _ _ _ _)
  | (with_reducible exact LeO.refl _)
  | (with_reducible exact LeO.none _)
  | (with_reducible refine LeO.ite ?_ ?_)
  | (with_reducible refine LeO.bind ?_ (fun _ => ?_))
  | exact ih0 _ _ _ _
  | exact LeO.none _
  | refine LeO.ite ?_ ?_
  | refine LeO.bind ?_ (fun _ => ?_)
def spec_l03Drop.T6 : Bool × List (List Nat × List Nat) := (true, [([], []), ([0], [0]), ([], []), ([2], [2]), ([], []), ([3, 4], [3, 4]), ([5], [5]), ([6], [6]), ([1, 7], [1, 7]), ([0, 1, 2, 3, 4, 5, 6, 7, 8], []), ([9, 8, 8, 0, 1, 2, 3, 4, 5, 6, 7, 8], [8, 9])])
def spec_l03Drop.B6 : List Nat := [0, 1, 0, 4, 0, 28, 60, 124, 255, 511, 1023]
theorem spec_l03Drop.tab6 : rtab .any (opsOf Try.f88 6) = spec_l03Drop.T6 := by kernel_rfl
theorem spec_l03Drop.bits6 : waitsOk spec_l03Drop.T6.2 spec_l03Drop.B6 = true := by kernel_rfl
set_option maxHeartbeats 8000000 in
set_option maxRecDepth 100000 in
theorem spec_l03Drop.calls (k : Nat) (A0_0 : Option Addr) (c0_0 : Nat) (l0_0 : List (S71)) (a1 : ByteArray) (r : List (S71)) (w : World) (hr0_0 : Kd.C k71 w A0_0 l0_0.length l0_0) (hc0_0 : l0_0.length ≤ c0_0) (h : spec_l03Drop.f k l0_0 a1 = some r) :
 Calls Try.prog 88 #[.agg #[.slice A0_0 l0_0.length c0_0], .string a1] w fun e w' => ∃ v0_ : Value, e = .returned (.agg #[v0_]) ∧ Kd.R k71 71 w' w.heap.size (fun _ => True) v0_ r ∧ Below w.heap.size w w' := by
 have hu30 := Try.underlying30; have hu71 := Try.underlying71; have HR0_0 := Aside0.mk hr0_0; have HC0_0 := Aside0.mk hc0_0; clear hr0_0 hc0_0; have HB := Aside0.mk (Below.refl w.heap.size w); have H : (spec_l03Drop.l0 k a1 0 l0_0 ([] : List (S71))) = some r := h; clear h; have H' := Aside0.mk H; clear H; go_enter Try.func88, Try.ntmps88
 go_wp2_with (first | ((with_reducible refine gate_dst (N := 2) rfl ?_); refine boxE (N := 2) (cs := #[.slice A0_0 l0_0.length c0_0]) (t := 30) (h := ?_); intro gb249 hg w3 hbox hb; have BK249 := Aside0.mk (hbox); have GW249 := Aside0.mk ((t5_ : w.heap.size ≤ gb249)); have GE249 := GW249; replace HB := bS t2_ hb; clear hb hbox hg) | ((with_reducible refine gate_dst (N := 4) rfl ?_); refine boxE (N := 4) (cs := #[.slice none 0 0]) (t := 30) (h := ?_); intro gb250 hg w4 hbox hb; have BK250 := Aside0.mk (hbox); have GW250 := Aside0.mk ((by rw [hg]; exact (below_size (by repeat (first | (with_reducible first | exact HB.out | apply below_alloc | apply pw_below_drewN | apply below_drew1 | refine below_set ?_ GE249.out) | exact HB.out))) : w.heap.size ≤ gb250)); have GE250 := Aside0.mk ((by rw [hg]; exact (below_size (by repeat (first | (with_reducible first | exact HB.out | apply below_alloc | apply pw_below_drewN | apply below_drew1 | refine below_set ?_ GE249.out) | exact HB.out))) : w.heap.size ≤ gb250)); replace HB := Aside0.mk (below_step (by repeat (first | (with_reducible first | exact HB.out | apply below_alloc | apply pw_below_drewN | apply below_drew1 | refine below_set ?_ GE249.out) | exact HB.out)) hb); have NB249_250 := nbL BK249 hg; have NB250_249 := nbG BK249 hg; replace BK249 := bkN BK249 hb; clear hb hbox hg) | ((with_reducible refine gate_dst (N := 5) rfl ?_); refine boxE (N := 5) (cs := #[.slice none 0 0]) (t := 30) (h := ?_); intro gb251 hg w5 hbox hb; have BK251 := Aside0.mk (hbox); have GW251 := Aside0.mk ((by rw [hg]; exact (below_size (by repeat (first | (with_reducible first | exact HB.out | apply below_alloc | apply pw_below_drewN | apply below_drew1 | refine below_set ?_ GE249.out | refine below_set ?_ GE250.out) | exact HB.out))) : w.heap.size ≤ gb251)); have GE251 := Aside0.mk ((by rw [hg]; exact (below_size (by repeat (first | (with_reducible first | exact HB.out | apply below_alloc | apply pw_below_drewN | apply below_drew1 | refine below_set ?_ GE249.out | refine below_set ?_ GE250.out) | exact HB.out))) : w.heap.size ≤ gb251)); replace HB := Aside0.mk (below_step (by repeat (first | (with_reducible first | exact HB.out | apply below_alloc | apply pw_below_drewN | apply below_drew1 | refine below_set ?_ GE249.out | refine below_set ?_ GE250.out) | exact HB.out)) hb); have NB249_251 := nbL BK249 hg; have NB251_249 := nbG BK249 hg; replace BK249 := bkN BK249 hb; have NB250_251 := nbL BK250 hg; have NB251_250 := nbG BK250 hg; replace BK250 := bkN BK250 hb; clear hb hbox hg; have hnb6 := NB251_249.out; have hnc6 := NB249_251.out; have hnb7 := NB251_250.out; have hnc7 := NB250_251.out; obtain ⟨hcz8_0, hfz8_0⟩ := ba1 BK251))
 go_loopg [6] k (fun kq v6 w' => ∃ (x6_1 : Int) (x252000_1 : List (S71)) (u252000 : Value), v6 = .int .i64 x6_1 ∧ Aside0 (spec_l03Drop.l0 kq a1 x6_1 l0_0 x252000_1 = some r) ∧ Aside0 (kq ≤ k) ∧ Aside0 (Kd.R k71 71 w' w.heap.size (fun _ => True) u252000 x252000_1) ∧ Aside0 (w'.heap[gb249]? = some (.cells #[(.slice A0_0 l0_0.length c0_0)] 30 (0, 0))) ∧ Aside0 (w'.heap[gb250]? = some (.cells #[(.slice none 0 0)] 30 (0, 0))) ∧ Aside0 (w'.heap[gb251]? = some (.cells #[u252000] 30 (0, 0))) ∧ Aside0 (Below w.heap.size w w'))
 case atStart => exact ⟨(0), (([] : List (S71))), (.slice none 0 0), t27_, H', ⟨Nat.le_refl _⟩, ⟨by first | exact Kd.R_nil _ _ _ _ _ | exact Kd.N_nil _ _ _ _ _ | exact Kd.V_nil _ _ _ _ _ | exact Kd.Q_nil _ _ _ _ _ | exact Kd.S_nil _ _ _ _ _⟩, ⟨zF1 BK249 NB249_251⟩, ⟨zF1 BK250 NB250_251⟩, ⟨zP BK251⟩, ⟨t53_⟩⟩
 case round =>
  clear H'
  try clear p2
  try clear c6
  try clear c7
  try clear c8
  try clear hcz8_0
  try clear hfz8_0
  obtain ⟨x6_1, x252000_1, u252000, rfl, HA, HK1, HO_252000, BK249, BK250, BK251, HB⟩ := hrel
  cases gk with
  | zero => exact absurd HA.out (by simp [spec_l03Drop.l0])
  | succ k1 =>
   have H := HA.out; clear HA; simp only [spec_l03Drop.l0] at H; by_cases c9 : x6_1 < (l0_0.length : Int)
   · rw [if_pos c9] at H; have c9b0 : decide (x6_1 < (l0_0.length : Int)) = true := decide_eq_true c9; clear c9; by_cases c10 : 0 ≤ x6_1
     · rw [if_pos c10] at H; have c10b0 : decide (0 ≤ x6_1) = true := decide_eq_true c10; clear c10; by_cases c11 : ((rd_T71 l0_0 x6_1).f0).toList = a1.toList
       · rw [if_pos c11] at H; have c11b0 : (((rd_T71 l0_0 x6_1).f0).toList == a1.toList) = true := beq_iff_eq.mpr c11; have c11b1 : (((rd_T71 l0_0 x6_1).f0).toList != a1.toList) = false := bne_eq_false_iff_eq.mpr c11; clear c11; have H' := Aside0.mk H; clear H; have hnb12 := NB249_250.out; have hnc12 := NB250_249.out; have hnb13 := NB249_251.out; have hnc13 := NB251_249.out; obtain ⟨hcz14_0, hfz14_0⟩ := ba1 BK249; have p252 : 0 ≤ (x6_1 : Int) := of_decide_eq_true t7_; have q252 : x6_1 < (l0_0.length : Int) := of_decide_eq_true t7_; obtain ⟨ad252, e252, hx252_0, hx252_1⟩ := at_T71 HR0_0.out x6_1 p252 q252
         cases e252
         replace hx252_0 := cW HB hx252_0; replace hx252_1 := cW HB hx252_1; replace p252 := eq_true p252; replace q252 := eq_true q252; go_wp2
         go_roundg k1
         case measure => have := HK1.out; omega
         case rel => exact ⟨(wrap64 (x6_1 + 1)), (x252000_1), (u252000), t27_, H', ⟨by have := HK1.out; omega⟩, ⟨zK HO_252000⟩, ⟨zN BK249⟩, ⟨zN BK250⟩, ⟨zN BK251⟩, ⟨t53_⟩⟩
       · rw [if_neg c11] at H; have c11b0 : (((rd_T71 l0_0 x6_1).f0).toList == a1.toList) = false := beq_eq_false_iff_ne.mpr c11; have c11b1 : (((rd_T71 l0_0 x6_1).f0).toList != a1.toList) = true := bne_iff_ne.mpr c11; by_cases c15 : x252000_1.length < 4398046511104
         · rw [if_pos c15] at H; have LMc15 := Aside0.mk c15; clear c15; obtain ⟨y254, hy254⟩ : ∃ y_ : List (S71), y_ = (x252000_1 ++ [(⟨(rd_T71 l0_0 x6_1).f0, (rd_T71 l0_0 x6_1).f1⟩ : S71)]) := ⟨_, rfl⟩; replace H : (spec_l03Drop.l0 k1 a1 (wrap64 (x6_1 + 1)) l0_0 y254) = some r := by first | (rw [hy254]; with_reducible exact H) | (have H2_ := (Option.bind_some _ _).symm.trans H; rw [hy254]; with_reducible exact H2_) | (have H2_ := (Option.bind_some _ _).symm.trans H; with_reducible exact H2_) | with_reducible exact H | (rw [hy254]; exact H) | exact H
           have Ny254 := Aside0.mk hy254; clear hy254; have H' := Aside0.mk H; clear H; have hnb16 := NB249_250.out; have hnc16 := NB250_249.out; have hnb17 := NB249_251.out; have hnc17 := NB251_249.out; obtain ⟨hcz18_0, hfz18_0⟩ := ba1 BK249; have p252 : 0 ≤ (x6_1 : Int) := of_decide_eq_true t7_; have q252 : x6_1 < (l0_0.length : Int) := of_decide_eq_true t7_; obtain ⟨ad252, e252, hx252_0, hx252_1⟩ := at_T71 HR0_0.out x6_1 p252 q252
           cases e252
           replace hx252_0 := cW HB hx252_0; replace hx252_1 := cW HB hx252_1; replace p252 := eq_true p252; replace q252 := eq_true q252
           try go_wp2
           replace HO_252000 := Aside0.mk (Kd.R_drew HO_252000.out); replace BK249 := Aside0.mk (blk_drew BK249.out); replace BK250 := Aside0.mk (blk_drew BK250.out); replace BK251 := Aside0.mk (blk_drew BK251.out); replace HB := Aside0.mk (below_drew1 HB.out); have p253 : 0 ≤ (x6_1 : Int) := of_decide_eq_true t7_; have q253 : x6_1 < (l0_0.length : Int) := of_decide_eq_true t7_; obtain ⟨ad253, e253, hx253_0, hx253_1⟩ := at_T71 HR0_0.out x6_1 p253 q253; have hw253_1 := hx253_1; have hw253_0 := hx253_0; obtain rfl : ad252 = ad253 := (by injection e253); replace hx253_0 := cW HB hx253_0; replace hx253_1 := cW HB hx253_1; replace p253 := eq_true p253; replace q253 := eq_true q253; refine start_ (n := 11) (S := fun w' => w'.cell? ⟨gb251, 0, none⟩ = some (u252000) ∧ w'.cell? ⟨gb249, 0, none⟩ = some (.slice (some ad252) l0_0.length c0_0) ∧ w'.cell? (ad252.add ((x6_1).toNat * 2)) = some (.string ((rd_T71 l0_0 x6_1).f0)) ∧ w'.cell? ⟨(ad252.add ((x6_1).toNat * 2)).block, (ad252.add ((x6_1).toNat * 2)).off + 1, none⟩ = some (.string ((rd_T71 l0_0 x6_1).f1))) (ds := [10]) #[false, false, false, false, false, false, false, false, false, false, false] (by kernel_rfl) rfl rfl ⟨bc0 BK251, bc0 BK249, ((HB.out.cell (World.block_lt_of_cell? w _ hw253_0)).trans hw253_0), ((HB.out.cell (World.block_lt_of_cell? w _ hw253_1)).trans hw253_1)⟩ (fun hHeld => ?_); refine with_tabW spec_l03Drop.tab6 spec_l03Drop.bits6 (fun HT_ HW_ => ?_)
           generalize wr.drew = w19 at HO_252000 BK249 BK250 BK251 HB hx253_0 hx253_1 hHeld ⊢; refine pure_ (i := 0) (N := some 23) (v := ?_) (a' := ?_) #[true, false, false, false, false, false, false, false, false, false, false] rfl rfl (any_of HT_.out (by kernel_rfl)) (fun _ _ _ h => h) (Or.inl ⟨by rfl, ?_⟩) ?_ ?_
           rotate_left
           · intro w'; go_simp; with_reducible rfl
           rotate_left
           · simp only [Act.put, ps1, ps2, ps3, i64_w, i32_w]; rfl
           refine pure_ (i := 2) (N := some 25) (v := ?_) (a' := ?_) #[true, false, true, false, false, false, false, false, false, false, false] rfl rfl (any_of HT_.out (by kernel_rfl)) (fun _ _ _ h => h) (Or.inl ⟨by rfl, ?_⟩) ?_ ?_
           rotate_left
           · intro w'; go_simp; with_reducible rfl
           rotate_left
           · simp only [Act.put, ps1, ps2, ps3, i64_w, i32_w]; rfl
           refine pure_ (i := 4) (N := some 27) (v := ?_) (a' := ?_) #[true, false, true, false, true, false, false, false, false, false, false] rfl rfl (any_of HT_.out (by kernel_rfl)) (fun _ _ _ h => h) (Or.inl ⟨by rfl, ?_⟩) ?_ ?_
           rotate_left
           · intro w'; go_simp; with_reducible rfl
           rotate_left
           · simp only [Act.put, ps1, ps2, ps3, i64_w, i32_w]; rfl
           refine take_ (i := 1) (N := some 24) (v := ?_) (a' := ?_) #[true, true, true, false, true, false, false, false, false, false, false] rfl rfl (take_ofW HT_.out HW_.out (by kernel_rfl)) (fun _ _ _ h => h) (Or.inl ⟨by rfl, ?_⟩) hHeld ?_ ?_
           rotate_left
           · rintro w' ⟨s0, s1, s2, s3⟩; go_simp; with_reducible rfl
           rotate_left
           · simp only [Act.put, ps1, ps2, ps3, i64_w, i32_w]; rfl
           refine take_ (i := 3) (N := some 26) (v := ?_) (a' := ?_) #[true, true, true, true, true, false, false, false, false, false, false] rfl rfl (take_ofW HT_.out HW_.out (by kernel_rfl)) (fun _ _ _ h => h) (Or.inl ⟨by rfl, ?_⟩) hHeld ?_ ?_
           rotate_left
           · rintro w' ⟨s0, s1, s2, s3⟩; go_simp; with_reducible rfl
           rotate_left
           · simp only [Act.put, ps1, ps2, ps3, i64_w, i32_w]; rfl
           refine pure_ (i := 5) (N := some 28) (v := ?_) (a' := ?_) #[true, true, true, true, true, true, false, false, false, false, false] rfl rfl (any_of HT_.out (by kernel_rfl)) (fun _ _ _ h => h) (Or.inl ⟨by rfl, ?_⟩) ?_ ?_
           rotate_left
           · intro w'; go_simp; with_reducible rfl
           rotate_left
           · simp only [Act.put, ps1, ps2, ps3, i64_w, i32_w]; rfl
           refine take_ (i := 6) (N := some 29) (v := ?_) (a' := ?_) #[true, true, true, true, true, true, true, false, false, false, false] rfl rfl (take_ofW HT_.out HW_.out (by kernel_rfl)) (fun _ _ _ h => h) (Or.inl ⟨by rfl, ?_⟩) hHeld ?_ ?_
           rotate_left
           · rintro w' ⟨s0, s1, s2, s3⟩; go_simp; with_reducible rfl
           rotate_left
           · simp only [Act.put, ps1, ps2, ps3, i64_w, i32_w]; rfl
           refine one_ (i := 7) (N := some 30) #[true, true, true, true, true, true, true, true, false, false, false] rfl rfl (one_of HT_.out (by kernel_rfl)) (by decide) (fun K hK => ?_)
           refine value_ (w1 := ?_) (v := ?_) (by rfl) rfl ?_ ?_
           rotate_left 2
           · go_simp
             constructor
             · rfl
             · rfl
           refine hK.out _ _ ⟨(blk_cell (blk_alloc BK251.out _) 0).trans rfl, (blk_cell (blk_alloc BK249.out _) 0).trans rfl, (World.cell?_alloc_lt _ _ _ (World.block_lt_of_cell? _ _ (((HB.out.cell (World.block_lt_of_cell? w _ hw253_0)).trans hw253_0)))).trans (((HB.out.cell (World.block_lt_of_cell? w _ hw253_0)).trans hw253_0)), (World.cell?_alloc_lt _ _ _ (World.block_lt_of_cell? _ _ (((HB.out.cell (World.block_lt_of_cell? w _ hw253_1)).trans hw253_1)))).trans (((HB.out.cell (World.block_lt_of_cell? w _ hw253_1)).trans hw253_1))⟩ (fun hHeld => ?_)
           clear hK K; refine norm_ (a' := ?_) ?_ ?_
           rotate_left
           · show Act.put _ (some 30) _ = _
             simp only [Act.put, ps1, ps2, ps3, i64_w, i32_w]; rfl
           refine one_ (i := 8) (N := some 31) #[true, true, true, true, true, true, true, true, true, false, false] rfl rfl (one_of HT_.out (by kernel_rfl)) (by decide) (fun K hK => ?_)
           refine Kd.R_append_step k71 (w0 := w) w.heap.size (by rfl) (.tmp 24) (.tmp 30) 28 71 (.agg #[(.string ⟨#[]⟩), (.string ⟨#[]⟩)]) 32 rfl Try.underlying28 info71 rfl (by decide) (by omega) u252000 x252000_1 (⟨(rd_T71 l0_0 x6_1).f0, (rd_T71 l0_0 x6_1).f1⟩ : S71) [.string ((rd_T71 l0_0 x6_1).f0), .string ((rd_T71 l0_0 x6_1).f1)] (fun _ => True) (fun _ => False) rfl rfl ?aP (fun _ hk => hk.elim) ?aF ?aO ?aB ?aS ?aL ?_
           (case aP => exact k71_mkM _ _ _ (⟨(rd_T71 l0_0 x6_1).f0, (rd_T71 l0_0 x6_1).f1⟩ : S71))
           (case aB => exact t53_)
           (case aF => exact (fun _ _ => trivial))
           (case aO => exact (zK HO_252000))
           (case aS => exact (below_size t53_))
           (case aL => have := LMc15.out; omega)
           intro v255 w20 ho hb hg hat; rw [← Ny254.out] at ho; have n0_ := Aside0.mk (blk_grown (g := gb249) (o := .cells #[.slice (some ad252) l0_0.length c0_0] 30 (0, 0)) (zN BK249) hg (Kd.R_ne HO_252000.out BK249.out (by decide))); have n1_ := Aside0.mk (blk_grown (g := gb250) (o := .cells #[.slice none 0 0] 30 (0, 0)) (zN BK250) hg (Kd.R_ne HO_252000.out BK250.out (by decide))); have n2_ := Aside0.mk (blk_grown (g := gb251) (o := .cells #[u252000] 30 (0, 0)) (zN BK251) hg (Kd.R_ne HO_252000.out BK251.out (by decide))); have n3_ := Aside0.mk (hb); have n4_ := Aside0.mk (ho); clear BK249; clear BK250; clear BK251; clear HB; clear HO_252000; have BK249 := n0_; have BK250 := n1_; have BK251 := n2_; have HB := n3_; have HO256 := n4_; clear n0_ n1_ n2_ n3_ n4_; clear ho hb hg hat; obtain ⟨Ao21, co21, eo21⟩ := Kd.R_slice HO256.out
           (first | subst eo21 | (injection eo21 with f1_ f2_ f3_; have f4_ := f1_.symm; have f5_ := f3_.symm; clear f1_ f2_ f3_; subst f4_; subst f5_))
           refine hK.out _ _ ⟨bc0 BK251, bc0 BK249, ((HB.out.cell (World.block_lt_of_cell? w _ hw253_0)).trans hw253_0), ((HB.out.cell (World.block_lt_of_cell? w _ hw253_1)).trans hw253_1)⟩ (fun hHeld => ?_)
           clear hK K; refine norm_ (a' := ?_) ?_ ?_
           rotate_left
           · show Act.put _ (some 31) _ = _
             simp only [Act.put, ps1, ps2, ps3, i64_w, i32_w]; rfl
           refine pure_ (i := 9) (N := some 32) (v := ?_) (a' := ?_) #[true, true, true, true, true, true, true, true, true, true, false] rfl rfl (any_of HT_.out (by kernel_rfl)) (fun _ _ _ h => h) (Or.inl ⟨by rfl, ?_⟩) ?_ ?_
           rotate_left
           · intro w'; go_simp; with_reducible rfl
           rotate_left
           · simp only [Act.put, ps1, ps2, ps3, i64_w, i32_w]; rfl
           refine last_ (i := 10) (N := none) #[true, true, true, true, true, true, true, true, true, true, true] rfl rfl (one_of HT_.out (by kernel_rfl)) (by decide) (fun K hK => ?_)
           have hs22 : w20.cell? ⟨gb251, 0, none⟩ = some (u252000) := bc0 BK251; have hfs22 := bf BK251 0; have hns22_0 := NB249_251.out; have hns22_1 := NB250_251.out; have hms22_0 := NB251_249.out; have hms22_1 := NB251_250.out; refine skip_ (w1 := ?_) (by rfl) rfl ?_ ?_
           rotate_left
           · go_simp; rfl
           refine hK.out _ _ ?_
           clear hK K; refine done_ (done_of HT_.out (by kernel_rfl)) ?_
           try go_wp2
           go_roundg k1
           case measure => have := HK1.out; omega
           case rel => exact ⟨(wrap64 (x6_1 + 1)), (y254), (.slice Ao21 y254.length co21), t27_, H', ⟨by have := HK1.out; omega⟩, ⟨rG HO256 BK251⟩, ⟨zF1 BK249 NB249_251⟩, ⟨zF1 BK250 NB250_251⟩, ⟨zP BK251⟩, ⟨t53_⟩⟩
         · rw [if_neg c15] at H; exact absurd H (by simp)
     · rw [if_neg c10] at H; exact absurd H (by simp)
   · rw [if_neg c9] at H; have c9b0 : decide (x6_1 < (l0_0.length : Int)) = false := decide_eq_false c9; clear c9; obtain rfl := Option.some.inj H; have hnb23 := NB249_250.out; have hnc23 := NB250_249.out; have hnb24 := NB249_251.out; have hnc24 := NB251_249.out; obtain ⟨hcz25_0, hfz25_0⟩ := ba1 BK249; have hnb26 := NB251_250.out; have hnc26 := NB250_251.out; obtain ⟨hcz27_0, hfz27_0⟩ := ba1 BK251; obtain ⟨Ao28, co28, eo28⟩ := Kd.R_slice HO_252000.out; subst eo28; obtain ⟨hcz29_0, hfz29_0⟩ := ba1 BK250; go_wp2; refine bodyPost_ret (results_cell_row rfl _ _ gb250 30 #[.slice Ao28 x252000_1.length co28] (0, 0) _ rfl (zP BK250) Try.underlying30 rfl (by kernel_rfl)) rfl ?_
     exact ⟨_, by first | rfl | (simp [errW_none, errW_some] <;> rfl) | (simp [*, errW_none, errW_some] <;> rfl), by (with_reducible repeat (first | apply Kd.R_alloc | apply Kd.R_drewN | apply Kd.R_drew)); exact Kd.R_mono (Kd.R_far (p := ⟨gb250, 0, none⟩) (Kd.R_types HO_252000.out BK250.out (by decide)) (fun _ hk => hk.2) (.slice Ao28 x252000_1.length co28)) (fun _ hk => trivial), t53_⟩

end Go.Proofs.Ytpjhbhjmaggheaa.QFnTorn
