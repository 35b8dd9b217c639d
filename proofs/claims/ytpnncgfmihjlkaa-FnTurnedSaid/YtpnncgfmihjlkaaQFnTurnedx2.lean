-- By a program of this session, over the kit's print.
import Derived.Test.YtpnncgfmihjlkaaQFnTurnedx0
import Derived.Test.YtpnncgfmihjlkaaQFnTurnedx1
namespace Go.Proofs.Ytpnncgfmihjlkaa.QFnTurned
open Go.RowKit Go.Proofs.YtpnncgfmihjlkaaW.PrintWords Go.Proofs.YtpnncgfmihjlkaaW.PrintLast Go.Proofs.YtpnncgfmihjlkaaW.PrintMore
attribute [local go_sem] max2_int min2_int max_two min_two max_three min_three max_four min_four   -- for this text's walks alone
set_option linter.unusedVariables false
set_option linter.unusedSimpArgs false

/-! ### impl_Sealed: function 12 -/
def impl_Sealed.f (k : Nat) (a0 : ByteArray) : Option (ByteArray × Bool) := if (a0.size : Int) > 20000 then (some ((⟨#[]⟩ : ByteArray), false)) else ((impl_SumOf.f k a0).bind fun t156 => ((some (([(t156 / 16777216) % 256, (t156 / 65536) % 256, (t156 / 256) % 256, (t156) % 256] : List Int) : List Int)).bind fun y157 => (if a0.size + (strOfNums y157).size ≤ 9223372036854775807 then (some (a0 ++ (strOfNums y157), true)) else (none))))
theorem impl_Sealed.mono : ∀ a0 k, LeO (impl_Sealed.f k a0) (impl_Sealed.f (k + 1) a0) := by
 intro a0 k
 unfold impl_Sealed.f
 repeat' first
  | (with_reducible exact impl_SumOf.mono _ _)
  | (with_reducible exact LeO.refl _)
  | (with_reducible exact LeO.none _)
  | (with_reducible refine LeO.ite ?_ ?_)
  | (with_reducible refine LeO.bind ?_ (fun _ => ?_))
  | exact impl_SumOf.mono _ _
  | exact LeO.none _
  | refine LeO.ite ?_ ?_
  | refine LeO.bind ?_ (fun _ => ?_)
set_option maxHeartbeats 8000000 in
set_option maxRecDepth 100000 in
theorem impl_Sealed.calls (k : Nat) (a0 : ByteArray) (r1 : ByteArray) (r2 : Bool) (w : World) (h : impl_Sealed.f k a0 = some (r1, r2)) :
 Calls Try.prog 12 #[.string a0] w fun e w' => e = .returned (.tuple #[.string r1, .bool r2]) ∧ Below w.heap.size w w' := by
 have HB := Aside0.mk (Below.refl w.heap.size w); have H : (if (a0.size : Int) > 20000 then (some ((⟨#[]⟩ : ByteArray), false)) else ((impl_SumOf.f k a0).bind fun t156 => ((some (([(t156 / 16777216) % 256, (t156 / 65536) % 256, (t156 / 256) % 256, (t156) % 256] : List Int) : List Int)).bind fun y157 => (if a0.size + (strOfNums y157).size ≤ 9223372036854775807 then (some (a0 ++ (strOfNums y157), true)) else (none))))) = some (r1, r2) := h; clear h; by_cases c2 : (a0.size : Int) > 20000
 · rw [if_pos c2] at H; have c2b0 : decide (20000 < (a0.size : Int)) = true := decide_eq_true c2; have c2b1 : decide (20000 < a0.size) = true := decide_eq_true (by omega); clear c2; simp only [Option.some.injEq, Prod.mk.injEq] at H; obtain ⟨rfl, rfl⟩ := H; go_enter Try.func12, Try.ntmps12; go_wp2
   go_ret2
   exact ⟨by first | rfl | (simp [errW_none, errW_some] <;> rfl) | (simp [*, errW_none, errW_some] <;> rfl), t0_⟩
 · rw [if_neg c2] at H; have c2b0 : decide (20000 < (a0.size : Int)) = false := decide_eq_false c2; have c2b1 : decide (20000 < a0.size) = false := decide_eq_false (by omega); clear c2; replace H := Option.bind_eq_some_iff.mp H; obtain ⟨t156, A30, H⟩ := H; replace H : ((some (([(t156 / 16777216) % 256, (t156 / 65536) % 256, (t156 / 256) % 256, (t156) % 256] : List Int) : List Int)).bind fun y157 => (if a0.size + (strOfNums y157).size ≤ 9223372036854775807 then (some (a0 ++ (strOfNums y157), true)) else (none))) = some (r1, r2) := H; have A3 := Aside0.mk A30; clear A30; obtain ⟨y157, hy157⟩ : ∃ y_ : List Int, y_ = (([(t156 / 16777216) % 256, (t156 / 65536) % 256, (t156 / 256) % 256, (t156) % 256] : List Int)) := ⟨_, rfl⟩; replace H : (if a0.size + (strOfNums y157).size ≤ 9223372036854775807 then (some (a0 ++ (strOfNums y157), true)) else (none)) = some (r1, r2) := by first | (rw [hy157]; with_reducible exact H) | (have H2_ := (Option.bind_some _ _).symm.trans H; rw [hy157]; with_reducible exact H2_) | (have H2_ := (Option.bind_some _ _).symm.trans H; with_reducible exact H2_) | with_reducible exact H | (rw [hy157]; exact H) | exact H
   have Ny157 := Aside0.mk hy157; clear hy157; by_cases c4 : a0.size + (strOfNums y157).size ≤ 9223372036854775807
   · rw [if_pos c4] at H; have c4b0 := eq_true c4; have c4b1 : decide (a0.size + (strOfNums y157).size ≤ 9223372036854775807) = true := decide_eq_true c4
     try have c4b2 : (9223372036854775807 < a0.size + (strOfNums y157).size) = False := eq_false (Nat.not_lt.2 c4)
     simp only [Option.some.injEq, Prod.mk.injEq] at H; obtain ⟨rfl, rfl⟩ := H; go_enter Try.func12, Try.ntmps12
     go_wp2_with (first | ((with_reducible refine gate_callee (f := 15) rfl ?_); refine goesL_ (some 9) rfl rfl Try.func15 (by kernel_rfl) rfl #[.string a0] rfl t2_ ?_; (with_reducible refine (impl_SumOf.calls k a0 t156 _ A3.out).mono ?_); rintro e w' ⟨rfl, ⟨nd, rfl⟩⟩; refine ⟨_, rfl, ?_⟩) | ((with_reducible refine gate_dst (N := 22) rfl ?_); refine Kd.R_lit (Kd.int .u8) _ 5 ?hg (N := 22) ?hd (xs := ([(t156 / 16777216) % 256, (t156 / 65536) % 256, (t156 / 256) % 256, (t156) % 256] : List Int)) (inner := [.int .u8 ((t156 / 16777216) % 256), .int .u8 ((t156 / 65536) % 256), .int .u8 ((t156 / 256) % 256), .int .u8 ((t156) % 256)]) (ok := fun _ => True) (okp := fun _ => True) ?hr ?hp (fun _ hk => hk) trivial (Below.refl _ _) (Nat.le_refl _) (by simp) ?_; (case hd => rfl); (case hg => rfl); (case hr => first | (go_simp; done) | (go_simp; rfl)); (case hp => exact (Reps.one (show Kd.M (Kd.int .u8) _ _ _ ((t156 / 16777216) % 256) [.int .u8 ((t156 / 16777216) % 256)] from rfl) (Reps.one (show Kd.M (Kd.int .u8) _ _ _ ((t156 / 65536) % 256) [.int .u8 ((t156 / 65536) % 256)] from rfl) (Reps.one (show Kd.M (Kd.int .u8) _ _ _ ((t156 / 256) % 256) [.int .u8 ((t156 / 256) % 256)] from rfl) (Reps.one (show Kd.M (Kd.int .u8) _ _ _ ((t156) % 256) [.int .u8 ((t156) % 256)] from rfl) (Reps.none _ _)))))); intro v158 w5 ho6 hb hg_ hnew_; clear hg_ hnew_; (first | rw [← Ny157.out] at ho6 | (simp only [Int.reduceToNat] at ho6; rw [← Ny157.out] at ho6)); have HO159 := Aside0.mk (Kd.R_lower ho6 (below_size t0_)); replace HB := bS t0_ hb; clear hb ho6; have hcv7 := own_string (P := Try.prog) Try.underlying22 Try.underlying5 Try.underlying9 (Kd.own_of_R HO159.out)))
     go_ret2
     exact ⟨by first | rfl | (simp [errW_none, errW_some] <;> rfl) | (simp [*, errW_none, errW_some] <;> rfl), t0_⟩
   · rw [if_neg c4] at H; exact absurd H (by simp)

/-! ### impl_Unsealed: function 13 -/
def impl_Unsealed.f (k : Nat) (a0 : ByteArray) : Option (ByteArray × Bool) := if (a0.size : Int) < 4 then (some ((⟨#[]⟩ : ByteArray), false)) else (if 0 ≤ (wrap64 ((a0.size : Int) - 4)) then (if (wrap64 ((a0.size : Int) - 4)) ≤ (a0.size : Int) then ((impl_Sealed.f k (a0.extract 0 ((wrap64 ((a0.size : Int) - 4)) : Int).toNat)).bind fun bt160 => (if bt160.2 = true then (if bt160.1.toList = a0.toList then (some (a0.extract 0 ((wrap64 ((a0.size : Int) - 4)) : Int).toNat, true)) else (some ((⟨#[]⟩ : ByteArray), false))) else (some ((⟨#[]⟩ : ByteArray), false)))) else (none)) else (none))
theorem impl_Unsealed.mono : ∀ a0 k, LeO (impl_Unsealed.f k a0) (impl_Unsealed.f (k + 1) a0) := by
 intro a0 k
 unfold impl_Unsealed.f
 repeat' first
  | (with_reducible exact impl_Sealed.mono _ _)
  | (with_reducible exact LeO.refl _)
  | (with_reducible exact LeO.none _)
  | (with_reducible refine LeO.ite ?_ ?_)
  | (with_reducible refine LeO.bind ?_ (fun _ => ?_))
  | exact impl_Sealed.mono _ _
  | exact LeO.none _
  | refine LeO.ite ?_ ?_
  | refine LeO.bind ?_ (fun _ => ?_)
set_option maxHeartbeats 8000000 in
set_option maxRecDepth 100000 in
theorem impl_Unsealed.calls (k : Nat) (a0 : ByteArray) (r1 : ByteArray) (r2 : Bool) (w : World) (h : impl_Unsealed.f k a0 = some (r1, r2)) :
 Calls Try.prog 13 #[.string a0] w fun e w' => e = .returned (.tuple #[.string r1, .bool r2]) ∧ Below w.heap.size w w' := by
 have HB := Aside0.mk (Below.refl w.heap.size w); have H : (if (a0.size : Int) < 4 then (some ((⟨#[]⟩ : ByteArray), false)) else (if 0 ≤ (wrap64 ((a0.size : Int) - 4)) then (if (wrap64 ((a0.size : Int) - 4)) ≤ (a0.size : Int) then ((impl_Sealed.f k (a0.extract 0 ((wrap64 ((a0.size : Int) - 4)) : Int).toNat)).bind fun bt160 => (if bt160.2 = true then (if bt160.1.toList = a0.toList then (some (a0.extract 0 ((wrap64 ((a0.size : Int) - 4)) : Int).toNat, true)) else (some ((⟨#[]⟩ : ByteArray), false))) else (some ((⟨#[]⟩ : ByteArray), false)))) else (none)) else (none))) = some (r1, r2) := h; clear h; by_cases c2 : (a0.size : Int) < 4
 · rw [if_pos c2] at H; have c2b0 : decide ((a0.size : Int) < 4) = true := decide_eq_true c2; have c2b1 : decide (a0.size < 4) = true := decide_eq_true (by omega); clear c2; simp only [Option.some.injEq, Prod.mk.injEq] at H; obtain ⟨rfl, rfl⟩ := H; go_enter Try.func13, Try.ntmps13; go_wp2
   go_ret2
   exact ⟨by first | rfl | (simp [errW_none, errW_some] <;> rfl) | (simp [*, errW_none, errW_some] <;> rfl), t0_⟩
 · rw [if_neg c2] at H; have c2b0 : decide ((a0.size : Int) < 4) = false := decide_eq_false c2; have c2b1 : decide (a0.size < 4) = false := decide_eq_false (by omega); clear c2; obtain ⟨ji3, hji3⟩ : ∃ j_ : Int, (wrap64 ((a0.size : Int) - 4)) = j_ := ⟨_, rfl⟩; replace H : (if 0 ≤ (ji3) then (if (ji3) ≤ (a0.size : Int) then ((impl_Sealed.f k (a0.extract 0 ((ji3) : Int).toNat)).bind fun bt160 => (if bt160.2 = true then (if bt160.1.toList = a0.toList then (some (a0.extract 0 ((ji3) : Int).toNat, true)) else (some ((⟨#[]⟩ : ByteArray), false))) else (some ((⟨#[]⟩ : ByteArray), false)))) else (none)) else (none)) = some (r1, r2) := by first | (rw [hji3] at H; exact H) | (simp only [hji3] at H ⊢; exact H)
   have hji3w : (IntKind.i64.wrap ((a0.size : Int) - 4)) = ji3 := (i64_w _).trans hji3; by_cases c4 : 0 ≤ (ji3)
   · rw [if_pos c4] at H; have c4b0 := eq_true c4; have c4b1 : decide (0 ≤ (ji3)) = true := decide_eq_true c4; clear c4; by_cases c5 : (ji3) ≤ (a0.size : Int)
     · rw [if_pos c5] at H; have c5b0 := eq_true c5; have c5b1 : decide ((ji3) ≤ (a0.size : Int)) = true := decide_eq_true c5; clear c5; replace H := Option.bind_eq_some_iff.mp H; obtain ⟨⟨t160, t161⟩, A60, H⟩ := H; replace H : (if t161 = true then (if t160.toList = a0.toList then (some (a0.extract 0 ((ji3) : Int).toNat, true)) else (some ((⟨#[]⟩ : ByteArray), false))) else (some ((⟨#[]⟩ : ByteArray), false))) = some (r1, r2) := H; have A6 := Aside0.mk A60; clear A60; by_cases c7 : t161 = true
       · subst c7; have H1 : (if t160.toList = a0.toList then (some (a0.extract 0 ((ji3) : Int).toNat, true)) else (some ((⟨#[]⟩ : ByteArray), false))) = some (r1, r2) := by rw [if_pos rfl] at H; exact H
         clear H; have H := H1; clear H1; by_cases c8 : t160.toList = a0.toList
         · rw [if_pos c8] at H; have c8b0 : (t160.toList == a0.toList) = true := beq_iff_eq.mpr c8; have c8b1 : (t160.toList != a0.toList) = false := bne_eq_false_iff_eq.mpr c8; clear c8; simp only [Option.some.injEq, Prod.mk.injEq] at H; obtain ⟨rfl, rfl⟩ := H; go_enter Try.func13, Try.ntmps13
           go_wp2_with (first | ((with_reducible refine gate_callee (f := 12) rfl ?_); refine goesL_ (some 17) rfl rfl Try.func12 (by kernel_rfl) rfl #[.string (a0.extract 0 ((ji3) : Int).toNat)] rfl (by (try simp only [List.map_toArray, List.map_cons, List.map_nil]); first | done | (simp only [hji3]; rfl) | rfl | (simp only [List.length_drop, List.length_take]; rfl)) ?_; (with_reducible refine (impl_Sealed.calls k (a0.extract 0 ((ji3) : Int).toNat) t160 true _ A6.out).mono ?_); rintro e w9 ⟨rfl, hb⟩; refine ⟨_, rfl, ?_⟩; replace HB := bS t0_ hb; (try clear hb)))
           go_ret2
           exact ⟨by first | rfl | (simp [errW_none, errW_some] <;> rfl) | (simp only [← hji3]; first | rfl | (simp [errW_none, errW_some] <;> rfl)) | (simp [*, errW_none, errW_some] <;> rfl), t0_⟩
         · rw [if_neg c8] at H; have c8b0 : (t160.toList == a0.toList) = false := beq_eq_false_iff_ne.mpr c8; have c8b1 : (t160.toList != a0.toList) = true := bne_iff_ne.mpr c8; simp only [Option.some.injEq, Prod.mk.injEq] at H; obtain ⟨rfl, rfl⟩ := H; go_enter Try.func13, Try.ntmps13
           go_wp2_with (first | ((with_reducible refine gate_callee (f := 12) rfl ?_); refine goesL_ (some 17) rfl rfl Try.func12 (by kernel_rfl) rfl #[.string (a0.extract 0 ((ji3) : Int).toNat)] rfl (by (try simp only [List.map_toArray, List.map_cons, List.map_nil]); first | done | (simp only [hji3]; rfl) | rfl | (simp only [List.length_drop, List.length_take]; rfl)) ?_; (with_reducible refine (impl_Sealed.calls k (a0.extract 0 ((ji3) : Int).toNat) t160 true _ A6.out).mono ?_); rintro e w10 ⟨rfl, hb⟩; refine ⟨_, rfl, ?_⟩; replace HB := bS t0_ hb; (try clear hb)))
           go_ret2
           exact ⟨by first | rfl | (simp [errW_none, errW_some] <;> rfl) | (simp only [← hji3]; first | rfl | (simp [errW_none, errW_some] <;> rfl)) | (simp [*, errW_none, errW_some] <;> rfl), t0_⟩
       · replace c7 := Bool.eq_false_iff.mpr c7; subst c7; have H1 : (some ((⟨#[]⟩ : ByteArray), false)) = some (r1, r2) := by rw [if_neg (show ¬ (false = true) by decide)] at H; exact H
         clear H; have H := H1; clear H1; simp only [Option.some.injEq, Prod.mk.injEq] at H; obtain ⟨rfl, rfl⟩ := H; go_enter Try.func13, Try.ntmps13
         go_wp2_with (first | ((with_reducible refine gate_callee (f := 12) rfl ?_); refine goesL_ (some 17) rfl rfl Try.func12 (by kernel_rfl) rfl #[.string (a0.extract 0 ((ji3) : Int).toNat)] rfl (by (try simp only [List.map_toArray, List.map_cons, List.map_nil]); first | done | (simp only [hji3]; rfl) | rfl | (simp only [List.length_drop, List.length_take]; rfl)) ?_; (with_reducible refine (impl_Sealed.calls k (a0.extract 0 ((ji3) : Int).toNat) t160 false _ A6.out).mono ?_); rintro e w11 ⟨rfl, hb⟩; refine ⟨_, rfl, ?_⟩; replace HB := bS t0_ hb; (try clear hb)))
         go_ret2
         exact ⟨by first | rfl | (simp [errW_none, errW_some] <;> rfl) | (simp only [← hji3]; first | rfl | (simp [errW_none, errW_some] <;> rfl)) | (simp [*, errW_none, errW_some] <;> rfl), t0_⟩
     · rw [if_neg c5] at H; exact absurd H (by simp)
   · rw [if_neg c4] at H; exact absurd H (by simp)

/-- The row of a conversion '[]byte(s)': a block of the call's own whose first n cells are these bytes; its mark lies behind them. -/
def CB (W : World) (g n : Nat) (xs : List Int) : Prop := xs.length = n ∧ ∃ cells m, W.heap[g]? = some (.cells cells 5 (m, m + 1)) ∧ cells.size = m ∧ ∀ i, i < n → cells[i]? = some (.int .u8 (xs.getD i 0))
theorem CB.conv (W : World) (s : ByteArray) : CB (Lib.bytesWorld W 5 s) W.heap.size s.size (bytesOf s) := by
  refine ⟨bytesOf_length s, _, _, Lib.bytesWorld_at_new W 5 s, rfl, fun i hi => ?_⟩
  have h := Lib.bytesWorld_cell W 5 s i hi
  simp only [World.cell?, Lib.bytesWorld_at_new] at h
  rw [show (bytesOf s).getD i 0 = ((s.data.toList.getD i 0).toNat : Int) by
    unfold bytesOf
    have hl : i < s.data.toList.length := by rw [data_length]; exact hi
    rw [List.getD_eq_getElem?_getD, List.getD_eq_getElem?_getD, List.getElem?_map, List.getElem?_eq_getElem hl]
    rfl]
  exact h
theorem CB.cell {W : World} {g n : Nat} {xs : List Int} (h : CB W g n xs) (i : Nat) (hi : i < n) : W.cell? ⟨g, i, none⟩ = some (.int .u8 (xs.getD i 0)) := by
  obtain ⟨_, cells, m, hb, _, hc⟩ := h
  simp only [World.cell?, hb]
  exact hc i hi
theorem CB.frozen {W : World} {g n : Nat} {xs : List Int} (h : CB W g n xs) (i : Nat) (hi : i < n) : W.frozen? ⟨g, i, none⟩ = false := by
  obtain ⟨_, cells, m, hb, hs, hc⟩ := h
  have : i < cells.size := (Array.getElem?_eq_some_iff.1 (hc i hi)).1
  simp only [World.frozen?, hb, Bool.and_eq_false_iff, decide_eq_false_iff_not]
  exact .inl (by omega)
theorem CB.below {W W1 : World} {g n : Nat} {xs : List Int} (h : CB W g n xs) (hb : Below W.heap.size W W1) : CB W1 g n xs := by
  obtain ⟨hl, cells, m, hg, hs, hc⟩ := h
  exact ⟨hl, cells, m, (hb.block g (Array.getElem?_eq_some_iff.1 hg).1).trans hg, hs, hc⟩
theorem CB.set {W : World} {g n : Nat} {xs : List Int} (h : CB W g n xs) (i : Nat) (hi : i < n) (y : Int) : CB (W.setCell ⟨g, i, none⟩ (.int .u8 y)) g n (xs.set i y) := by
  obtain ⟨hl, cells, m, hg, hs, hc⟩ := h
  refine ⟨by rw [List.length_set]; exact hl, cells.setIfInBounds i (.int .u8 y), m, ?_, by simpa using hs, fun j hj => ?_⟩
  · have hlt := (Array.getElem?_eq_some_iff.1 hg).1
    simp only [World.setCell, Array.getElem?_modify, hg]
    simp
  · have hi' : i < cells.size := (Array.getElem?_eq_some_iff.1 (hc i hi)).1
    rw [Array.getElem?_setIfInBounds, List.getD_eq_getElem?_getD, List.getElem?_set]
    by_cases e : i = j
    · rw [if_pos e, if_pos e, if_pos hi', if_pos (by omega)]
      rfl
    · rw [if_neg e, if_neg e, hc j hj, List.getD_eq_getElem?_getD]
theorem CB.string {P : Program} {W : World} {g n c : Nat} {xs : List Int} (h : CB W g n xs) {src dst e : TypeId} (hs : P.underlying src = some (.slice e)) (he : P.underlying e = some (.int .u8)) (hd : P.underlying dst = some .string) :
    (convert src dst (.slice (some ⟨g, 0, none⟩) n c)).run P W = .ok (.string (strOfNums xs)) W :=
  run_convert_bytes_arg W src e hs he g 0 n c xs h.1 (fun i hi => by rw [Nat.zero_add]; exact h.cell i hi) dst hd
theorem conv_below (W : World) (e : TypeId) (s : ByteArray) : Below W.heap.size W (Lib.bytesWorld W e s) :=
  ⟨by simp [Lib.bytesWorld, World.freeze]; rfl, by simp [Lib.bytesWorld, World.freeze], by simp [Lib.bytesWorld, World.freeze]; rfl, by rw [Lib.bytesWorld_size]; omega, fun k hk => Lib.bytesWorld_at_old W e s k hk⟩
/-- The conversion, for a walk. -/
theorem conv_run {P : Program} (src dst : TypeId) {u : TypeDesc} (hs : P.underlying src = some u) (hd : P.underlying dst = some (.slice 5)) (he : P.underlying 5 = some (.int .u8)) (s : ByteArray) (W : World) :
    ∃ g c w1, (convert src dst (.string s)).run P W = .ok (.slice (some ⟨g, 0, none⟩) s.size c) w1 ∧ W.heap.size ≤ g ∧ s.size ≤ c ∧ CB w1 g s.size (bytesOf s) ∧ Below W.heap.size W w1 :=
  ⟨_, _, _, print_bytes (P := P) src dst 5 hs hd he s W, Nat.le_refl _, by have := grownCap_ge W s.size 0 5; omega, CB.conv W s, conv_below W 5 s⟩
/-! ### laws_FnTurned: function 3 -/
/-- A text whose one byte is another. -/
def turnedOf (t : ByteArray) (a b : Int) : ByteArray := strOfNums ((bytesOf t).set (a % (t.size : Int)).toNat (Go.bits .xor .u8 ((bytesOf t)[(a % (t.size : Int)).toNat]?.getD 0) (1 + b % 255)))
def laws_FnTurned.j0 : Nat → Bool → ByteArray → List Int → ByteArray → Option (Bool)
 | 0, _, _, _, _ => none
 | k + 1, x47, t, p, s => if x47 = true then (none) else (if 2 ≤ p.length then (if 0 < t.size then (if 0 ≤ rd p 0 then (if 0 ≤ rd p 1 then (if s.size + 1 ≤ 9223372036854775807 then ((impl_Unsealed.f k (turnedOf t (rd p 0) (rd p 1))).bind fun bt => (if bt.2 = true then (none) else ((impl_SumOf.f k s).bind fun a => ((impl_SumMore.f k a (⟨#[120]⟩ : ByteArray)).bind fun b => ((impl_SumOf.f k (s ++ (⟨#[120]⟩ : ByteArray))).bind fun c => (if b = c then (some true) else (none))))))) else (none)) else (none)) else (none)) else (none)) else (none))
def laws_FnTurned.f (k : Nat) (l0 : List Int) : Option (Bool) := (laws_big.f l0).bind fun t162 => (if t162 = true then (some true) else ((spec_DrawSumOf.f k l0).bind fun t163 => ((spec_DrawPlaces.f k l0).bind fun t164 => ((impl_Sealed.f k t163).bind fun bt167 => ((impl_Unsealed.f k bt167.1).bind fun bt169 => (if bt167.2 = true then (if bt169.2 = true then (if bt169.1.toList = t163.toList then (laws_FnTurned.j0 k ((bt167.1.size : Int) != (wrap64 ((t163.size : Int) + 4))) bt167.1 t164 t163) else (laws_FnTurned.j0 k true bt167.1 t164 t163)) else (laws_FnTurned.j0 k true bt167.1 t164 t163)) else (laws_FnTurned.j0 k true bt167.1 t164 t163)))))))
theorem laws_FnTurned.mono_l : ∀ k, (∀ y0 y1 y2 y3, LeO (laws_FnTurned.j0 k y0 y1 y2 y3) (laws_FnTurned.j0 (k + 1) y0 y1 y2 y3))
 | 0 => fun _ _ _ _ r h => by simp [laws_FnTurned.j0] at h
 | k + 1 => by
  have ih0 := laws_FnTurned.mono_l k
  · intro y0 y1 y2 y3
    unfold laws_FnTurned.j0
    repeat' first
    | (with_reducible exact ih0 _ _ _ _)
    | (with_reducible exact impl_Sealed.mono _ _)
    | (with_reducible exact impl_Unsealed.mono _ _)
    | (with_reducible exact impl_SumOf.mono _ _)
    | (with_reducible exact impl_SumMore.mono _ _ _)
    | (with_reducible exact spec_DrawPlaces.mono _ _)
    | (with_reducible exact spec_DrawSumOf.mono _ _)
    | (with_reducible exact LeO.refl _)
    | (with_reducible exact LeO.none _)
    | (with_reducible refine LeO.ite ?_ ?_)
    | (with_reducible refine LeO.bind ?_ (fun _ => ?_))
    | exact ih0 _ _ _ _
    | exact impl_Sealed.mono _ _
    | exact impl_Unsealed.mono _ _
    | exact spec_DrawPlaces.mono _ _
    | exact spec_DrawSumOf.mono _ _
    | exact LeO.none _
    | refine LeO.ite ?_ ?_
    | refine LeO.bind ?_ (fun _ => ?_)
theorem laws_FnTurned.mono : ∀ a0 k, LeO (laws_FnTurned.f k a0) (laws_FnTurned.f (k + 1) a0) := by
 intro a0 k; have ih0 := laws_FnTurned.mono_l k
 unfold laws_FnTurned.f
 repeat' first
  | (with_reducible exact ih0 _ _ _ _)
  | (with_reducible exact impl_Sealed.mono _ _)
  | (with_reducible exact impl_Unsealed.mono _ _)
    | (with_reducible exact impl_SumOf.mono _ _)
    | (with_reducible exact impl_SumMore.mono _ _ _)
  | (with_reducible exact spec_DrawPlaces.mono _ _)
  | (with_reducible exact spec_DrawSumOf.mono _ _)
  | (with_reducible exact LeO.refl _)
  | (with_reducible exact LeO.none _)
  | (with_reducible refine LeO.ite ?_ ?_)
  | (with_reducible refine LeO.bind ?_ (fun _ => ?_))
  | exact ih0 _ _ _ _
  | exact impl_Sealed.mono _ _
  | exact impl_Unsealed.mono _ _
  | exact spec_DrawPlaces.mono _ _
  | exact spec_DrawSumOf.mono _ _
  | exact LeO.none _
  | refine LeO.ite ?_ ?_
  | refine LeO.bind ?_ (fun _ => ?_)
set_option maxHeartbeats 8000000 in
set_option maxRecDepth 100000 in
theorem laws_FnTurned.calls (k : Nat) (A0 : Option Addr) (c0 : Nat) (l0 : List Int) (r : Bool) (w : World) (hr0 : Kd.C (Kd.int .u8) w A0 l0.length l0) (hc0 : l0.length ≤ c0) (h : laws_FnTurned.f k l0 = some r) :
 Calls Try.prog 3 #[.slice A0 l0.length c0] w fun e w' => e = .returned (.bool r) ∧ Below w.heap.size w w' := by
 have HR0 := Aside0.mk hr0; have HC0 := Aside0.mk hc0; clear hr0 hc0; have HB := Aside0.mk (Below.refl w.heap.size w); have H : ((laws_big.f l0).bind fun t162 => (if t162 = true then (some true) else ((spec_DrawSumOf.f k l0).bind fun t163 => ((spec_DrawPlaces.f k l0).bind fun t164 => ((impl_Sealed.f k t163).bind fun bt167 => ((impl_Unsealed.f k bt167.1).bind fun bt169 => (if bt167.2 = true then (if bt169.2 = true then (if bt169.1.toList = t163.toList then (laws_FnTurned.j0 k ((bt167.1.size : Int) != (wrap64 ((t163.size : Int) + 4))) bt167.1 t164 t163) else (laws_FnTurned.j0 k true bt167.1 t164 t163)) else (laws_FnTurned.j0 k true bt167.1 t164 t163)) else (laws_FnTurned.j0 k true bt167.1 t164 t163)))))))) = some r := h; clear h; replace H := Option.bind_eq_some_iff.mp H; obtain ⟨t162, A20, H⟩ := H; replace H : (if t162 = true then (some true) else ((spec_DrawSumOf.f k l0).bind fun t163 => ((spec_DrawPlaces.f k l0).bind fun t164 => ((impl_Sealed.f k t163).bind fun bt167 => ((impl_Unsealed.f k bt167.1).bind fun bt169 => (if bt167.2 = true then (if bt169.2 = true then (if bt169.1.toList = t163.toList then (laws_FnTurned.j0 k ((bt167.1.size : Int) != (wrap64 ((t163.size : Int) + 4))) bt167.1 t164 t163) else (laws_FnTurned.j0 k true bt167.1 t164 t163)) else (laws_FnTurned.j0 k true bt167.1 t164 t163)) else (laws_FnTurned.j0 k true bt167.1 t164 t163))))))) = some r := H; have A2 := Aside0.mk A20; clear A20; by_cases c3 : t162 = true
 · subst c3; have H1 : (some true) = some r := by rw [if_pos rfl] at H; exact H
   clear H; have H := H1; clear H1; obtain rfl := Option.some.inj H; go_enter Try.func3, Try.ntmps3
   go_wp2_with (first | ((with_reducible refine gate_callee (f := 9) rfl ?_); refine goesL_ (some 14) rfl rfl Try.func9 (by kernel_rfl) rfl #[.slice A0 l0.length c0] rfl t2_ ?_; (with_reducible refine (laws_big.calls _ _ l0 true _ ?side1 ?side2 A2.out).mono ?_); (case side1 => repeat (first | exact HR0.out | (with_reducible refine Kd.C_alloc ?_ _) | (with_reducible refine Kd.C_drewN ?_ _) | (with_reducible refine Kd.C_drew ?_))); (case side2 => exact HC0.out); rintro e w' ⟨rfl, ⟨nd, rfl⟩⟩; refine ⟨_, rfl, ?_⟩))
   go_ret; exact ⟨by first | rfl | (simp [errW_none, errW_some] <;> rfl) | (simp [*, errW_none, errW_some] <;> rfl), t0_⟩
 · replace c3 := Bool.eq_false_iff.mpr c3; subst c3; have H1 : ((spec_DrawSumOf.f k l0).bind fun t163 => ((spec_DrawPlaces.f k l0).bind fun t164 => ((impl_Sealed.f k t163).bind fun bt167 => ((impl_Unsealed.f k bt167.1).bind fun bt169 => (if bt167.2 = true then (if bt169.2 = true then (if bt169.1.toList = t163.toList then (laws_FnTurned.j0 k ((bt167.1.size : Int) != (wrap64 ((t163.size : Int) + 4))) bt167.1 t164 t163) else (laws_FnTurned.j0 k true bt167.1 t164 t163)) else (laws_FnTurned.j0 k true bt167.1 t164 t163)) else (laws_FnTurned.j0 k true bt167.1 t164 t163)))))) = some r := by rw [if_neg (show ¬ (false = true) by decide)] at H; exact H
   clear H; have H := H1; clear H1; replace H := Option.bind_eq_some_iff.mp H; obtain ⟨t163, A40, H⟩ := H; replace H : ((spec_DrawPlaces.f k l0).bind fun t164 => ((impl_Sealed.f k t163).bind fun bt167 => ((impl_Unsealed.f k bt167.1).bind fun bt169 => (if bt167.2 = true then (if bt169.2 = true then (if bt169.1.toList = t163.toList then (laws_FnTurned.j0 k ((bt167.1.size : Int) != (wrap64 ((t163.size : Int) + 4))) bt167.1 t164 t163) else (laws_FnTurned.j0 k true bt167.1 t164 t163)) else (laws_FnTurned.j0 k true bt167.1 t164 t163)) else (laws_FnTurned.j0 k true bt167.1 t164 t163))))) = some r := H; have A4 := Aside0.mk A40; clear A40; replace H := Option.bind_eq_some_iff.mp H; obtain ⟨t164, A50, H⟩ := H; replace H : ((impl_Sealed.f k t163).bind fun bt167 => ((impl_Unsealed.f k bt167.1).bind fun bt169 => (if bt167.2 = true then (if bt169.2 = true then (if bt169.1.toList = t163.toList then (laws_FnTurned.j0 k ((bt167.1.size : Int) != (wrap64 ((t163.size : Int) + 4))) bt167.1 t164 t163) else (laws_FnTurned.j0 k true bt167.1 t164 t163)) else (laws_FnTurned.j0 k true bt167.1 t164 t163)) else (laws_FnTurned.j0 k true bt167.1 t164 t163)))) = some r := H; have A5 := Aside0.mk A50; clear A50; replace H := Option.bind_eq_some_iff.mp H; obtain ⟨⟨t167, t168⟩, A60, H⟩ := H; replace H : ((impl_Unsealed.f k t167).bind fun bt169 => (if t168 = true then (if bt169.2 = true then (if bt169.1.toList = t163.toList then (laws_FnTurned.j0 k ((t167.size : Int) != (wrap64 ((t163.size : Int) + 4))) t167 t164 t163) else (laws_FnTurned.j0 k true t167 t164 t163)) else (laws_FnTurned.j0 k true t167 t164 t163)) else (laws_FnTurned.j0 k true t167 t164 t163))) = some r := H; have A6 := Aside0.mk A60; clear A60; replace H := Option.bind_eq_some_iff.mp H; obtain ⟨⟨t169, t170⟩, A70, H⟩ := H; replace H : (if t168 = true then (if t170 = true then (if t169.toList = t163.toList then (laws_FnTurned.j0 k ((t167.size : Int) != (wrap64 ((t163.size : Int) + 4))) t167 t164 t163) else (laws_FnTurned.j0 k true t167 t164 t163)) else (laws_FnTurned.j0 k true t167 t164 t163)) else (laws_FnTurned.j0 k true t167 t164 t163)) = some r := H; have A7 := Aside0.mk A70; clear A70; have HC8 := Aside0.mk H; clear H; go_enter Try.func3, Try.ntmps3
   go_upto_region 7 with (first | ((with_reducible refine gate_callee (f := 9) rfl ?_); refine goesL_ (some 14) rfl rfl Try.func9 (by kernel_rfl) rfl #[.slice A0 l0.length c0] rfl t2_ ?_; (with_reducible refine (laws_big.calls _ _ l0 false _ ?side1 ?side2 A2.out).mono ?_); (case side1 => repeat (first | exact HR0.out | (with_reducible refine Kd.C_alloc ?_ _) | (with_reducible refine Kd.C_drewN ?_ _) | (with_reducible refine Kd.C_drew ?_))); (case side2 => exact HC0.out); rintro e w' ⟨rfl, ⟨nd, rfl⟩⟩; refine ⟨_, rfl, ?_⟩) | ((with_reducible refine gate_callee (f := 10) rfl ?_); refine goesL_ (some 16) rfl rfl Try.func10 (by kernel_rfl) rfl #[.slice A0 l0.length c0] rfl t2_ ?_; (with_reducible refine (spec_DrawSumOf.calls k _ _ l0 t163 _ ?side1 ?side2 A4.out).mono ?_); (case side1 => repeat (first | exact HR0.out | (with_reducible refine Kd.C_alloc ?_ _) | (with_reducible refine Kd.C_drewN ?_ _) | (with_reducible refine Kd.C_drew ?_))); (case side2 => exact HC0.out); rintro e w9 ⟨rfl, hb⟩; refine ⟨_, rfl, ?_⟩; replace HB := bS t0_ hb; (try clear hb)) | ((with_reducible refine gate_callee (f := 11) rfl ?_); refine goesL_ (some 18) rfl rfl Try.func11 (by kernel_rfl) rfl #[.slice A0 l0.length c0] rfl t2_ ?_; (with_reducible refine (spec_DrawPlaces.calls k _ _ l0 t164 _ ?side1 ?side2 A5.out).mono ?_); (case side1 => exact cB HR0 HB); (case side2 => exact HC0.out); rintro e w10 ⟨v165, rfl, ho0, hb⟩; refine ⟨_, rfl, ?_⟩; have HO166 := Aside0.mk (Kd.R_lower ho0 (below_size t0_)); replace HB := bS t0_ hb; (try clear hb); (try clear ho0)) | ((with_reducible refine gate_callee (f := 12) rfl ?_); refine goesL_ (some 21) rfl rfl Try.func12 (by kernel_rfl) rfl #[.string t163] rfl t2_ ?_; (with_reducible refine (impl_Sealed.calls k t163 t167 t168 _ A6.out).mono ?_); rintro e w11 ⟨rfl, hb⟩; refine ⟨_, rfl, ?_⟩; replace HO166 := Aside0.mk (Kd.R_below (zK HO166) hb); replace HB := bS t0_ hb; (try clear hb)) | ((with_reducible refine gate_callee (f := 13) rfl ?_); refine goesL_ (some 26) rfl rfl Try.func13 (by kernel_rfl) rfl #[.string t167] rfl t2_ ?_; (with_reducible refine (impl_Unsealed.calls k t167 t169 t170 _ A7.out).mono ?_); rintro e w12 ⟨rfl, hb⟩; refine ⟨_, rfl, ?_⟩; replace HO166 := Aside0.mk (Kd.R_below (zK HO166) hb); replace HB := bS t0_ hb; (try clear hb)))
   (try simp only [Act.put, List.setIfInBounds_toArray, List.set_cons_zero, List.set_cons_succ])
   go_cut [47] (fun v47 wc => ∃ (kq : Nat) (x47_7 : Bool), v47 = .bool x47_7 ∧ Aside0 (laws_FnTurned.j0 kq x47_7 t167 t164 t163 = some r) ∧ Aside0 (kq ≤ k) ∧ Aside0 (Kd.R (Kd.int .i64) 3 wc w.heap.size (fun _ => True) v165 t164) ∧ Aside0 (Below w.heap.size w wc))
   case first =>
    have H := HC8.out; clear HC8; by_cases c13 : t168 = true
    · subst c13; have H1 : (if t170 = true then (if t169.toList = t163.toList then (laws_FnTurned.j0 k ((t167.size : Int) != (wrap64 ((t163.size : Int) + 4))) t167 t164 t163) else (laws_FnTurned.j0 k true t167 t164 t163)) else (laws_FnTurned.j0 k true t167 t164 t163)) = some r := by rw [if_pos rfl] at H; exact H
      clear H; have H := H1; clear H1; by_cases c14 : t170 = true
      · subst c14; have H1 : (if t169.toList = t163.toList then (laws_FnTurned.j0 k ((t167.size : Int) != (wrap64 ((t163.size : Int) + 4))) t167 t164 t163) else (laws_FnTurned.j0 k true t167 t164 t163)) = some r := by rw [if_pos rfl] at H; exact H
        clear H; have H := H1; clear H1; by_cases c15 : t169.toList = t163.toList
        · rw [if_pos c15] at H; have c15b0 : (t169.toList == t163.toList) = true := beq_iff_eq.mpr c15; have c15b1 : (t169.toList != t163.toList) = false := bne_eq_false_iff_eq.mpr c15; clear c15
          (first | rw [c15b0] | (simp only [i64_w, i32_w]; rw [c15b0]) | skip)
          have H' := Aside0.mk H; clear H; go_wp2; go_meet
          case rel => exact ⟨_, (((t167.size : Int) != (wrap64 ((t163.size : Int) + 4)))), t6_, H', ⟨by first | omega | exact Nat.le_refl _⟩, ⟨zK HO166⟩, ⟨t0_⟩⟩
        · rw [if_neg c15] at H; have c15b0 : (t169.toList == t163.toList) = false := beq_eq_false_iff_ne.mpr c15; have c15b1 : (t169.toList != t163.toList) = true := bne_iff_ne.mpr c15
          (first | rw [c15b0] | (simp only [i64_w, i32_w]; rw [c15b0]) | skip)
          have H' := Aside0.mk H; clear H; go_wp2; go_meet
          case rel => exact ⟨_, (true), t6_, H', ⟨by first | omega | exact Nat.le_refl _⟩, ⟨zK HO166⟩, ⟨t0_⟩⟩
      · replace c14 := Bool.eq_false_iff.mpr c14; subst c14; have H1 : (laws_FnTurned.j0 k true t167 t164 t163) = some r := by rw [if_neg (show ¬ (false = true) by decide)] at H; exact H
        clear H; have H := H1; clear H1; have H' := Aside0.mk H; clear H; go_wp2; go_meet
        case rel => exact ⟨_, (true), t6_, H', ⟨by first | omega | exact Nat.le_refl _⟩, ⟨zK HO166⟩, ⟨t0_⟩⟩
    · replace c13 := Bool.eq_false_iff.mpr c13; subst c13; have H1 : (laws_FnTurned.j0 k true t167 t164 t163) = some r := by rw [if_neg (show ¬ (false = true) by decide)] at H; exact H
      clear H; have H := H1; clear H1; have H' := Aside0.mk H; clear H; go_wp2; go_meet
      case rel => exact ⟨_, (true), t6_, H', ⟨by first | omega | exact Nat.le_refl _⟩, ⟨zK HO166⟩, ⟨t0_⟩⟩
   case rest =>
    clear HC8
    try clear c1
    try clear p2
    try clear c3
    try clear p6
    try clear c9
    try clear c10
    try clear c11
    try clear c12
    try clear c13
    try clear c14
    try clear c15
    try clear c15b0
    try clear c15b1
    obtain ⟨kq, x47_7, rfl, HA, HJ7, HO166, HB⟩ := hcut
    cases kq with
    | zero => exact absurd HA.out (by simp [laws_FnTurned.j0])
    | succ kj7 =>
     have H := HA.out; clear HA; simp only [laws_FnTurned.j0] at H; by_cases c16 : x47_7 = true
     · subst c16; have H1 : (none) = some r := by rw [if_pos rfl] at H; exact H
       clear H; have H := H1; clear H1; exact absurd H (by simp)
     · replace c16 := Bool.eq_false_iff.mpr c16; subst c16; rw [if_neg (show ¬ (false = true) by decide)] at H
       by_cases d1 : 2 ≤ t164.length
       rotate_left
       · rw [if_neg d1] at H; exact absurd H (by simp)
       by_cases d2 : 0 < t167.size
       rotate_left
       · rw [if_pos d1, if_neg d2] at H; exact absurd H (by simp)
       by_cases d3 : 0 ≤ rd t164 0
       rotate_left
       · rw [if_pos d1, if_pos d2, if_neg d3] at H; exact absurd H (by simp)
       by_cases d7 : 0 ≤ rd t164 1
       rotate_left
       · rw [if_pos d1, if_pos d2, if_pos d3, if_neg d7] at H; exact absurd H (by simp)
       by_cases d4 : t163.size + 1 ≤ 9223372036854775807
       rotate_left
       · rw [if_pos d1, if_pos d2, if_pos d3, if_pos d7, if_neg d4] at H; exact absurd H (by simp)
       rw [if_pos d1, if_pos d2, if_pos d3, if_pos d7, if_pos d4] at H
       replace H := Option.bind_eq_some_iff.mp H; obtain ⟨⟨u1, u2⟩, B1, H⟩ := H
       by_cases d5 : u2 = true
       · rw [if_pos d5] at H; exact absurd H (by simp)
       replace d5 := Bool.eq_false_iff.mpr d5; subst d5
       rw [if_neg (show ¬ (false = true) by decide)] at H
       replace H := Option.bind_eq_some_iff.mp H; obtain ⟨u3, B2, H⟩ := H
       replace H := Option.bind_eq_some_iff.mp H; obtain ⟨u4, B3, H⟩ := H
       replace H := Option.bind_eq_some_iff.mp H; obtain ⟨u5, B4, H⟩ := H
       by_cases d6 : u4 = u5
       rotate_left
       · rw [if_neg d6] at H; exact absurd H (by simp)
       rw [if_pos d6] at H; subst d6; obtain rfl := Option.some.inj H
       clear H
       have A1 := Aside0.mk B1; have A2' := Aside0.mk B2; have A3' := Aside0.mk B3; have A4' := Aside0.mk B4; clear B1 B2 B3 B4
       obtain ⟨gp, cp, rfl, gb9, gl9, cl9, HG9⟩ := Kd.R_form HO166.out (by omega)
       have hcp := (Kd.R_reads' HO166.out).2.1
       obtain ⟨ad0, e0, hx0⟩ := Kd.at_int (Kd.R_reads' HO166.out).2.2 0 (by omega) (by omega)
       obtain ⟨ad1, e1, hx1⟩ := Kd.at_int (Kd.R_reads' HO166.out).2.2 1 (by omega) (by omega)
       cases e0; cases e1
       clear gl9 cl9 HG9
       obtain ⟨g1, c1, w13, hkb, hg1, hc1, hcb, hb⟩ := conv_run (P := Try.prog) 9 22 Try.underlying9 Try.underlying22 Try.underlying5 t167 wc
       replace hx0 : w13.cell? ⟨gp, 0, none⟩ = some (.int .i64 (rd t164 0)) := pw_cell_below hb hx0
       replace hx1 : w13.cell? ⟨gp, 1, none⟩ = some (.int .i64 (rd t164 1)) := pw_cell_below hb hx1
       have hl1 : (1 : Int) < (t164.length : Int) := by omega
       have hl0 : (0 : Int) < (t164.length : Int) := by omega
       have ne1 : ((t167.size : Int) == 0) = false := beq_eq_false_iff_ne.mpr (by omega)
       have ne2 : ¬ ((t167.size : Int) = 0) := by omega
       have ne3 : ¬ (t167 = ByteArray.empty) := fun h_ => by rw [h_] at d2; exact absurd d2 (by decide)
       have ne4 : (t167 = ByteArray.empty) = False := eq_false ne3
       go_wp2
       have ib0 := Int.emod_nonneg (rd t164 0) (show (t167.size : Int) ≠ 0 by omega)
       have ib1 := Int.emod_lt_of_pos (rd t164 0) (show (0 : Int) < (t167.size : Int) by omega)
       obtain ⟨i, hi⟩ : ∃ i : Nat, rd t164 0 % (t167.size : Int) = (i : Int) := ⟨_, (Int.toNat_of_nonneg ib0).symm⟩
       rw [hi] at ib1
       have hil : i < t167.size := by omega
       rw [hi]
       have hci := hcb.cell i hil
       have hfi := hcb.frozen i hil
       have ib2 : (i : Int) < (t167.size : Int) := ib1
       clear ib0
       go_region
       have hcs := hcb.set i hil (Go.bits .xor .u8 ((bytesOf t167)[i]?.getD 0) (1 + rd t164 1 % 255))
       have hcd : CB ((w13.setCell ⟨g1, i, none⟩ (.int .u8 (Go.bits .xor .u8 ((bytesOf t167)[i]?.getD 0) (1 + rd t164 1 % 255)))).drew) g1 t167.size ((bytesOf t167).set i (Go.bits .xor .u8 ((bytesOf t167)[i]?.getD 0) (1 + rd t164 1 % 255))) := hcs
       have hstr := CB.string (P := Try.prog) (c := c1) hcd Try.underlying22 Try.underlying5 Try.underlying9
       have htu : strOfNums ((bytesOf t167).set i (Go.bits .xor .u8 ((bytesOf t167)[i]?.getD 0) (1 + rd t164 1 % 255))) = turnedOf t167 (rd t164 0) (rd t164 1) := by
         unfold turnedOf
         rw [hi, Int.toNat_natCast]
       rw [htu] at hstr
       have hb14 : Below w.heap.size w ((w13.setCell ⟨g1, i, none⟩ (.int .u8 (Go.bits .xor .u8 ((bytesOf t167)[i]?.getD 0) (1 + rd t164 1 % 255)))).drew) := by
         have h1 := below_step HB.out hb
         have h2 := HB.out.size
         exact (below_set h1 (show w.heap.size ≤ g1 by omega)).drew
       clear hcs hcd htu hci hfi hcb hkb hx0 hx1 HB HO166 hb
       generalize (w13.setCell ⟨g1, i, none⟩ (.int .u8 (Go.bits .xor .u8 ((bytesOf t167)[i]?.getD 0) (1 + rd t164 1 % 255)))).drew = w14 at *
       have HB := Aside0.mk hb14
       clear hb14
       have hjn : t163.size + (⟨#[120]⟩ : ByteArray).size ≤ 9223372036854775807 := d4
       have hjb : (9223372036854775807 < t163.size + 1) = False := eq_false (Nat.not_lt.2 d4)
       have hjc : (9223372036854775807 < t163.size + (⟨#[120]⟩ : ByteArray).size) = False := eq_false (Nat.not_lt.2 d4)
       go_wp2_with (first | ((with_reducible refine gate_callee (f := 13) rfl ?_); refine goesL_ (some 73) rfl rfl Try.func13 (by kernel_rfl) rfl #[.string (turnedOf t167 (rd t164 0) (rd t164 1))] rfl t2_ ?_; (with_reducible refine (impl_Unsealed.calls kj7 (turnedOf t167 (rd t164 0) (rd t164 1)) u1 false _ A1.out).mono ?_); rintro e w15 ⟨rfl, hb⟩; refine ⟨_, rfl, ?_⟩; replace HB := bS t0_ hb; (try clear hb)) | (go_at_call 15; (with_reducible refine (impl_SumOf.calls kj7 t163 u3 _ A2'.out).mono ?_); rintro e w' ⟨rfl, ⟨nd2, rfl⟩⟩) | (go_at_call 14; (with_reducible refine (impl_SumMore.calls kj7 u3 ⟨#[120]⟩ u4 _ A3'.out).mono ?_); rintro e w' ⟨rfl, ⟨nd3, rfl⟩⟩) | (go_at_call 15; (with_reducible refine (impl_SumOf.calls kj7 (t163 ++ ⟨#[120]⟩) u4 _ A4'.out).mono ?_); rintro e w' ⟨rfl, ⟨nd4, rfl⟩⟩))
       go_ret; exact ⟨by first | rfl | (simp; done) | (simp [*]; done), t0_⟩

/-- THE ONE PURE STATEMENT of laws_FnTurned: yours. -/
def laws_FnTurned.Pure : Prop := ∀ (l0 : List Int), l0.length ≤ maxLen → l0.length * 1 ≤ 140737488351232 → (∀ x ∈ l0, (Lit.int .u8 x).wf = true) → ∃ k, laws_FnTurned.f k l0 = some true
theorem laws_FnTurned.walk (P : laws_FnTurned.Pure) (a0 : Option Addr) (len0 cap0 : Nat) (z0 : List Int) (w : World) (w0 : (a0 = none ∧ len0 = 0 ∧ cap0 = 0 ∧ z0 = []) ∨ ∃ x, a0 = some x ∧ len0 ≤ cap0 ∧ cap0 ≤ maxLen ∧ z0.length = cap0 ∧ (∀ i, i < z0.length → w.cell? (x.add i) = some (.int .u8 (z0.getD i 0))) ∧ ∀ n ∈ z0, (Lit.int .u8 n).wf = true) (y0 : len0 * 1 ≤ 140737488351232) :
 Calls Try.prog 3 #[.slice a0 len0 cap0] w fun e w' => e = .returned (.bool true) ∧ Below w.heap.size w w' := by
 obtain ⟨l0, rfl, hr0, hm0, hw0, hc0⟩ := ReadsInt.ofRowC w0; obtain ⟨k, h⟩ := P l0 hm0 y0 hw0; refine (laws_FnTurned.calls k _ _ l0 true w (Kd.C_of_reads (d := (0 : Int)) (h1 := fun _ => rfl) hr0) hc0 h).mono ?_
 rintro e w' ⟨rfl, hd⟩; exact ⟨rfl, hd⟩

end Go.Proofs.Ytpnncgfmihjlkaa.QFnTurned
