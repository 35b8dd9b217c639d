-- By a program of this session, over the kit's print.
import Derived.Test.YtpjhbhjmaggheaaQFnExactPutRawsx0
import Derived.Test.YtpjhbhjmaggheaaQFnExactPutRawsx2
namespace Go.Proofs.Ytpjhbhjmaggheaa.QFnExactPutRaws
open Go.RowKit Go.Proofs.YtpjhbhjmaggheaaW.PrintWords Go.Proofs.YtpjhbhjmaggheaaW.PrintLast Go.Proofs.YtpjhbhjmaggheaaW.PrintMore
attribute [local go_sem] max2_int min2_int max_two min_two max_three min_three max_four min_four   -- for this text's walks alone
set_option linter.unusedVariables false
set_option linter.unusedSimpArgs false

/-! ### laws_markRawS: function 20 -/
def laws_markRawS.l0 : Nat → List (S65) → Int → Int → Option (Int × (List (S65)))
  | 0, _, _, _ => none
  | k + 1, x0, x1, x5 => if x5 < (x0.length : Int) then (if 0 ≤ x5 then ((some (x0.set (x5 : Int).toNat (⟨x1, (rd_T65 x0 x5).f1, (rd_T65 x0 x5).f2, (rd_T65 x0 x5).f3⟩ : S65) : List (S65))).bind fun y160 => ((laws_markText.f k (wrap64 (x1 + 1))).bind fun t161 => ((some (y160.set (x5 : Int).toNat (⟨(rd_T65 y160 x5).f0, t161, (rd_T65 y160 x5).f2, (rd_T65 y160 x5).f3⟩ : S65) : List (S65))).bind fun y162 => ((laws_markText.f k (wrap64 ((wrap64 (x1 + 1)) + 1))).bind fun t163 => ((some (y162.set (x5 : Int).toNat (⟨(rd_T65 y162 x5).f0, (rd_T65 y162 x5).f1, t163, (rd_T65 y162 x5).f3⟩ : S65) : List (S65))).bind fun y164 => ((laws_markText.f k (wrap64 ((wrap64 ((wrap64 (x1 + 1)) + 1)) + 1))).bind fun t165 => (laws_markRawS.l0 k (y164.set (x5 : Int).toNat (⟨(rd_T65 y164 x5).f0, (rd_T65 y164 x5).f1, (rd_T65 y164 x5).f2, t165⟩ : S65)) (wrap64 ((wrap64 ((wrap64 ((wrap64 (x1 + 1)) + 1)) + 1)) + 1)) (wrap64 (x5 + 1))))))))) else (none)) else (some (x1, x0))
def laws_markRawS.f (k : Nat) (l0 : List (S65)) (a1 : Int) : Option (Int × (List (S65))) := laws_markRawS.l0 k l0 a1 0
theorem laws_markRawS.mono_l : ∀ k, (∀ y0 y1 y2, LeO (laws_markRawS.l0 k y0 y1 y2) (laws_markRawS.l0 (k + 1) y0 y1 y2))
  | 0 => fun _ _ _ r h => by simp [laws_markRawS.l0] at h
  | k + 1 => by
    have ih0 := laws_markRawS.mono_l k
    · intro y0 y1 y2
      unfold laws_markRawS.l0
      repeat' first
      | (with_reducible exact ih0 _ _ _)
      | (with_reducible exact laws_markText.mono _ _)
      | (with_reducible exact LeO.refl _)
      | (with_reducible exact LeO.none _)
      | (with_reducible refine LeO.ite ?_ ?_)
      | (with_reducible refine LeO.bind ?_ (fun _ => ?_))
      | exact ih0 _ _ _
      | exact laws_markText.mono _ _
      | exact LeO.none _
      | refine LeO.ite ?_ ?_
      | refine LeO.bind ?_ (fun _ => ?_)
theorem laws_markRawS.mono : ∀ a0 a1 k, LeO (laws_markRawS.f k a0 a1) (laws_markRawS.f (k + 1) a0 a1) := by
  intro a0 a1 k
  have ih0 := laws_markRawS.mono_l k
  unfold laws_markRawS.f
  repeat' first
      | (with_reducible exact ih0 _ _ _)
      | (with_reducible exact laws_markText.mono _ _)
      | (with_reducible exact LeO.refl _)
      | (with_reducible exact LeO.none _)
      | (with_reducible refine LeO.ite ?_ ?_)
      | (with_reducible refine LeO.bind ?_ (fun _ => ?_))
      | exact ih0 _ _ _
      | exact laws_markText.mono _ _
      | exact LeO.none _
      | refine LeO.ite ?_ ?_
      | refine LeO.bind ?_ (fun _ => ?_)
set_option maxHeartbeats 8000000 in
set_option maxRecDepth 100000 in
theorem laws_markRawS.calls (k : Nat) (P0_ : Nat → Prop) (u9000_ : Value) (l0 : List (S65)) (a1 : Int) (r1 : Int) (r2 : List (S65)) (w0 w : World) (hB : Below w0.heap.size w0 w) (ho0 : Kd.R k65 65 w w0.heap.size P0_ u9000_ l0) (h : laws_markRawS.f k l0 a1 = some (r1, r2)) :
    Calls Try.prog 20 #[u9000_, .int .i64 a1] w fun e w' => e = .returned (.int .i64 r1) ∧ Kd.R k65 65 w' w0.heap.size (fun k_ => (P0_ k_ ∨ w.heap.size ≤ k_)) u9000_ r2 ∧ Below w0.heap.size w0 w' ∧ Kept w w' (fun k_ => P0_ k_) := by
  have HO0 := Aside0.mk (show Kd.R k65 65 w w0.heap.size (fun k_ => (P0_ k_ ∨ w.heap.size ≤ k_)) u9000_ l0 from Kd.R_mono ho0 (fun k_ hk => (.inl hk)))
  have HK := Aside0.mk (Kept.refl w (fun k_ => P0_ k_))
  have HW0 := Aside0.mk hB.size
  have HB := Aside0.mk hB
  clear hB
  have H : (laws_markRawS.l0 k l0 a1 0) = some (r1, r2) := h
  clear h
  have H' := Aside0.mk H
  clear H
  go_enter Try.func20, Try.ntmps20
  go_wp2
  go_loopg [1, 5] k (fun kq v1 v5 w' => ∃ (x0_1 : List (S65)) (x1_1 : Int) (x5_1 : Int), v1 = .int .i64 x1_1 ∧ v5 = .int .i64 x5_1 ∧ Aside0 (laws_markRawS.l0 kq x0_1 x1_1 x5_1 = some (r1, r2)) ∧ Aside0 (kq ≤ k) ∧ Aside0 (Kd.R k65 65 w' w0.heap.size (fun k_ => (P0_ k_ ∨ w.heap.size ≤ k_)) u9000_ x0_1) ∧ Aside0 (Kept w w' (fun k_ => P0_ k_)) ∧ Aside0 (Below w0.heap.size w0 w'))
  case atStart => exact ⟨(l0), (a1), (0), t19_, t19_, H', ⟨Nat.le_refl _⟩, ⟨by (with_reducible repeat (first | apply Kd.R_alloc | apply Kd.R_drewN | apply Kd.R_drew)); exact HO0.out⟩, ⟨t25_⟩, ⟨t0_⟩⟩
  case round =>
    clear H'
    try clear c2
    try clear p2
    obtain ⟨x0_1, x1_1, x5_1, rfl, rfl, HA, HK1, HO_0, HK, HB⟩ := hrel
    cases gk with
    | zero => exact absurd HA.out (by simp [laws_markRawS.l0])
    | succ k1 =>
      have H := HA.out
      clear HA
      simp only [laws_markRawS.l0] at H
      by_cases c3 : x5_1 < (x0_1.length : Int)
      · rw [if_pos c3] at H
        have c3b0 : decide (x5_1 < (x0_1.length : Int)) = true := decide_eq_true c3
        clear c3
        by_cases c4 : 0 ≤ x5_1
        · rw [if_pos c4] at H
          have c4b0 : decide (0 ≤ x5_1) = true := decide_eq_true c4
          clear c4
          obtain ⟨y160, hy160⟩ : ∃ y_ : List (S65), y_ = (x0_1.set (x5_1 : Int).toNat (⟨x1_1, (rd_T65 x0_1 x5_1).f1, (rd_T65 x0_1 x5_1).f2, (rd_T65 x0_1 x5_1).f3⟩ : S65)) := ⟨_, rfl⟩
          replace H : ((laws_markText.f k1 (wrap64 (x1_1 + 1))).bind fun t161 => ((some (y160.set (x5_1 : Int).toNat (⟨(rd_T65 y160 x5_1).f0, t161, (rd_T65 y160 x5_1).f2, (rd_T65 y160 x5_1).f3⟩ : S65) : List (S65))).bind fun y162 => ((laws_markText.f k1 (wrap64 ((wrap64 (x1_1 + 1)) + 1))).bind fun t163 => ((some (y162.set (x5_1 : Int).toNat (⟨(rd_T65 y162 x5_1).f0, (rd_T65 y162 x5_1).f1, t163, (rd_T65 y162 x5_1).f3⟩ : S65) : List (S65))).bind fun y164 => ((laws_markText.f k1 (wrap64 ((wrap64 ((wrap64 (x1_1 + 1)) + 1)) + 1))).bind fun t165 => (laws_markRawS.l0 k1 (y164.set (x5_1 : Int).toNat (⟨(rd_T65 y164 x5_1).f0, (rd_T65 y164 x5_1).f1, (rd_T65 y164 x5_1).f2, t165⟩ : S65)) (wrap64 ((wrap64 ((wrap64 ((wrap64 (x1_1 + 1)) + 1)) + 1)) + 1)) (wrap64 (x5_1 + 1)))))))) = some (r1, r2) := by first | (rw [hy160]; with_reducible exact H) | (have H2_ := (Option.bind_some _ _).symm.trans H; rw [hy160]; with_reducible exact H2_) | (have H2_ := (Option.bind_some _ _).symm.trans H; with_reducible exact H2_) | with_reducible exact H | (rw [hy160]; exact H) | exact H
          have Ny160 := Aside0.mk hy160
          clear hy160
          replace H := Option.bind_eq_some_iff.mp H
          obtain ⟨t161, A60, H⟩ := H
          replace H : ((some (y160.set (x5_1 : Int).toNat (⟨(rd_T65 y160 x5_1).f0, t161, (rd_T65 y160 x5_1).f2, (rd_T65 y160 x5_1).f3⟩ : S65) : List (S65))).bind fun y162 => ((laws_markText.f k1 (wrap64 ((wrap64 (x1_1 + 1)) + 1))).bind fun t163 => ((some (y162.set (x5_1 : Int).toNat (⟨(rd_T65 y162 x5_1).f0, (rd_T65 y162 x5_1).f1, t163, (rd_T65 y162 x5_1).f3⟩ : S65) : List (S65))).bind fun y164 => ((laws_markText.f k1 (wrap64 ((wrap64 ((wrap64 (x1_1 + 1)) + 1)) + 1))).bind fun t165 => (laws_markRawS.l0 k1 (y164.set (x5_1 : Int).toNat (⟨(rd_T65 y164 x5_1).f0, (rd_T65 y164 x5_1).f1, (rd_T65 y164 x5_1).f2, t165⟩ : S65)) (wrap64 ((wrap64 ((wrap64 ((wrap64 (x1_1 + 1)) + 1)) + 1)) + 1)) (wrap64 (x5_1 + 1))))))) = some (r1, r2) := H
          have A6 := Aside0.mk A60
          clear A60
          obtain ⟨y162, hy162⟩ : ∃ y_ : List (S65), y_ = (y160.set (x5_1 : Int).toNat (⟨(rd_T65 y160 x5_1).f0, t161, (rd_T65 y160 x5_1).f2, (rd_T65 y160 x5_1).f3⟩ : S65)) := ⟨_, rfl⟩
          replace H : ((laws_markText.f k1 (wrap64 ((wrap64 (x1_1 + 1)) + 1))).bind fun t163 => ((some (y162.set (x5_1 : Int).toNat (⟨(rd_T65 y162 x5_1).f0, (rd_T65 y162 x5_1).f1, t163, (rd_T65 y162 x5_1).f3⟩ : S65) : List (S65))).bind fun y164 => ((laws_markText.f k1 (wrap64 ((wrap64 ((wrap64 (x1_1 + 1)) + 1)) + 1))).bind fun t165 => (laws_markRawS.l0 k1 (y164.set (x5_1 : Int).toNat (⟨(rd_T65 y164 x5_1).f0, (rd_T65 y164 x5_1).f1, (rd_T65 y164 x5_1).f2, t165⟩ : S65)) (wrap64 ((wrap64 ((wrap64 ((wrap64 (x1_1 + 1)) + 1)) + 1)) + 1)) (wrap64 (x5_1 + 1)))))) = some (r1, r2) := by first | (rw [hy162]; with_reducible exact H) | (have H2_ := (Option.bind_some _ _).symm.trans H; rw [hy162]; with_reducible exact H2_) | (have H2_ := (Option.bind_some _ _).symm.trans H; with_reducible exact H2_) | with_reducible exact H | (rw [hy162]; exact H) | exact H
          have Ny162 := Aside0.mk hy162
          clear hy162
          replace H := Option.bind_eq_some_iff.mp H
          obtain ⟨t163, A80, H⟩ := H
          replace H : ((some (y162.set (x5_1 : Int).toNat (⟨(rd_T65 y162 x5_1).f0, (rd_T65 y162 x5_1).f1, t163, (rd_T65 y162 x5_1).f3⟩ : S65) : List (S65))).bind fun y164 => ((laws_markText.f k1 (wrap64 ((wrap64 ((wrap64 (x1_1 + 1)) + 1)) + 1))).bind fun t165 => (laws_markRawS.l0 k1 (y164.set (x5_1 : Int).toNat (⟨(rd_T65 y164 x5_1).f0, (rd_T65 y164 x5_1).f1, (rd_T65 y164 x5_1).f2, t165⟩ : S65)) (wrap64 ((wrap64 ((wrap64 ((wrap64 (x1_1 + 1)) + 1)) + 1)) + 1)) (wrap64 (x5_1 + 1))))) = some (r1, r2) := H
          have A8 := Aside0.mk A80
          clear A80
          obtain ⟨y164, hy164⟩ : ∃ y_ : List (S65), y_ = (y162.set (x5_1 : Int).toNat (⟨(rd_T65 y162 x5_1).f0, (rd_T65 y162 x5_1).f1, t163, (rd_T65 y162 x5_1).f3⟩ : S65)) := ⟨_, rfl⟩
          replace H : ((laws_markText.f k1 (wrap64 ((wrap64 ((wrap64 (x1_1 + 1)) + 1)) + 1))).bind fun t165 => (laws_markRawS.l0 k1 (y164.set (x5_1 : Int).toNat (⟨(rd_T65 y164 x5_1).f0, (rd_T65 y164 x5_1).f1, (rd_T65 y164 x5_1).f2, t165⟩ : S65)) (wrap64 ((wrap64 ((wrap64 ((wrap64 (x1_1 + 1)) + 1)) + 1)) + 1)) (wrap64 (x5_1 + 1)))) = some (r1, r2) := by first | (rw [hy164]; with_reducible exact H) | (have H2_ := (Option.bind_some _ _).symm.trans H; rw [hy164]; with_reducible exact H2_) | (have H2_ := (Option.bind_some _ _).symm.trans H; with_reducible exact H2_) | with_reducible exact H | (rw [hy164]; exact H) | exact H
          have Ny164 := Aside0.mk hy164
          clear hy164
          replace H := Option.bind_eq_some_iff.mp H
          obtain ⟨t165, A100, H⟩ := H
          replace H : (laws_markRawS.l0 k1 (y164.set (x5_1 : Int).toNat (⟨(rd_T65 y164 x5_1).f0, (rd_T65 y164 x5_1).f1, (rd_T65 y164 x5_1).f2, t165⟩ : S65)) (wrap64 ((wrap64 ((wrap64 ((wrap64 (x1_1 + 1)) + 1)) + 1)) + 1)) (wrap64 (x5_1 + 1))) = some (r1, r2) := H
          have A10 := Aside0.mk A100
          clear A100
          obtain ⟨y166, hy166⟩ : ∃ y_ : List (S65), y_ = (y164.set (x5_1 : Int).toNat (⟨(rd_T65 y164 x5_1).f0, (rd_T65 y164 x5_1).f1, (rd_T65 y164 x5_1).f2, t165⟩ : S65)) := ⟨_, rfl⟩
          replace H : (laws_markRawS.l0 k1 y166 (wrap64 ((wrap64 ((wrap64 ((wrap64 (x1_1 + 1)) + 1)) + 1)) + 1)) (wrap64 (x5_1 + 1))) = some (r1, r2) := by first | (rw [hy166]; with_reducible exact H) | (have H2_ := (Option.bind_some _ _).symm.trans H; rw [hy166]; with_reducible exact H2_) | (have H2_ := (Option.bind_some _ _).symm.trans H; with_reducible exact H2_) | with_reducible exact H | (rw [hy166]; exact H) | exact H
          have Ny166 := Aside0.mk hy166
          clear hy166
          have H' := Aside0.mk H
          clear H
          obtain ⟨Ao12, co12, eo12⟩ := Kd.R_slice HO_0.out
          subst eo12
          have p5 : 0 ≤ (x5_1 : Int) := of_decide_eq_true t7_
          have q5 : (x5_1 : Int) < ((x0_1.length : Int) : Int) := of_decide_eq_true t7_
          obtain ⟨go5, co5, eo5, gb5, gl5, cl5, HG5⟩ := Kd.R_form HO_0.out (by omega)
          (first | cases eo5 | (injection eo5 with ea_ en_ ec_; (first | subst ea_ | (injection ea_ with ea_; subst ea_)); subst ec_; clear en_))
          have GB5 := Aside0.mk gb5
          have GG5 := Aside0.mk HG5
          clear gb5 gl5 HG5
          have HMgo5 := Aside0.mk (show (P0_ go5 ∨ w.heap.size ≤ go5) from (HO_0.out.1 _ rfl))
          obtain ⟨ce5, hcl5, hM5, hcc5, hfr5⟩ := Kd.R_elem HO_0.out z65 (x5_1 : Int) p5 q5
          obtain rfl := k65_openM hM5
          have hx5_0 : wr.cell? ⟨go5, (x5_1 : Int).toNat * 4, none⟩ = some (.int .i64 ((rd_T65 x0_1 x5_1).f0)) := hcc5 0 _ rfl
          have hx5_1 : wr.cell? ⟨go5, (x5_1 : Int).toNat * 4 + 1, none⟩ = some (.string ((rd_T65 x0_1 x5_1).f1)) := hcc5 1 _ rfl
          have hx5_2 : wr.cell? ⟨go5, (x5_1 : Int).toNat * 4 + 2, none⟩ = some (.string ((rd_T65 x0_1 x5_1).f2)) := hcc5 2 _ rfl
          have hx5_3 : wr.cell? ⟨go5, (x5_1 : Int).toNat * 4 + 3, none⟩ = some (.string ((rd_T65 x0_1 x5_1).f3)) := hcc5 3 _ rfl
          have hf5_0 : wr.frozen? ⟨go5, (x5_1 : Int).toNat * 4, none⟩ = false := hfr5 0
          have hf5_1 : wr.frozen? ⟨go5, (x5_1 : Int).toNat * 4 + 1, none⟩ = false := hfr5 1
          have hf5_2 : wr.frozen? ⟨go5, (x5_1 : Int).toNat * 4 + 2, none⟩ = false := hfr5 2
          have hf5_3 : wr.frozen? ⟨go5, (x5_1 : Int).toNat * 4 + 3, none⟩ = false := hfr5 3
          clear hcl5 hcc5 hfr5 hM5
          replace p5 := eq_true p5
          replace q5 := eq_true q5
          have HX13 := Aside0.mk (show Kd.R k65 65 wr w0.heap.size (fun k_ => (P0_ k_ ∨ w.heap.size ≤ k_)) (.slice (some ⟨go5, 0, none⟩) x0_1.length co12) x0_1 from t49_)
          obtain ⟨ce13, hcl13, hM13, hcc13, hfr13⟩ := Kd.R_elem HX13.out z65 (x5_1 : Int) (of_decide_eq_true t7_) (by have h_ : (x5_1 : Int) < ((x0_1.length : Int) : Int) := of_decide_eq_true t7_; first | exact h_ | (have e_ := (Kd.R_reads' HO_0.out).1; omega) | simpa using h_)
          obtain rfl := k65_openM hM13
          have HP13 := Kd.R_seg HX13.out (x5_1 : Int) (of_decide_eq_true t7_) (by have h_ : (x5_1 : Int) < ((x0_1.length : Int) : Int) := of_decide_eq_true t7_; first | exact h_ | (have e_ := (Kd.R_reads' HO_0.out).1; omega) | simpa using h_) (seg := [.int .i64 x1_1]) (j := 0) hcl13 hcc13 (show 1 ≤ 4 from by decide) (x' := (⟨x1_1, (rd_T65 x0_1 x5_1).f1, (rd_T65 x0_1 x5_1).f2, (rd_T65 x0_1 x5_1).f3⟩ : S65)) (k65_mkM _ _ _ (⟨x1_1, (rd_T65 x0_1 x5_1).f1, (rd_T65 x0_1 x5_1).f2, (rd_T65 x0_1 x5_1).f3⟩ : S65) ) (fun _ hk => hk)
          have hx13_0 := hcc13 0 _ rfl
          (try simp only [show (k65).sz = 4 from rfl, Nat.mul_one, Nat.add_zero] at hx13_0)
          have hf13_0 := hfr13 0
          (try simp only [show (k65).sz = 4 from rfl, Nat.mul_one, Nat.add_zero] at hf13_0)
          clear hcl13 hcc13 hfr13 hM13
          go_wp2_with (first | ((with_reducible refine gate_store (t := 3) (p := 16) rfl ?_); refine store_event (t := 3) (p := 16) (v := ?vo_w14) (w1 := (wr.setCell ⟨go5, (x5_1 : Int).toNat * 4, none⟩ (.int .i64 x1_1))) ?hg ?ho ?hn ?hr ?_; (case ho => rfl); (case hg => rfl); (case hn => rfl); (case hr => first | (go_simp; done) | (go_simp; rfl)); intro w14 hw; have hg : wr.grownBy w14 (some go5) := (by rw [hw]; exact HP13.2); have hp_ : Kd.R k65 65 w14 w0.heap.size (fun k_ => (P0_ k_ ∨ w.heap.size ≤ k_)) (.slice (some ⟨go5, 0, none⟩) x0_1.length co12) y160 := (by rw [hw, Ny160.out]; exact HP13.1); clear HP13; replace HB := Aside0.mk ((t82_ : Below w0.heap.size w0 w14)); replace HK := Aside0.mk (Kept.of_grown (S := (fun k_ => P0_ k_)) hg t25_ (fun k_ e_ => (HO_0.out.1 k_ e_))); replace HO_0 := Aside0.mk (hp_); clear hg hw hp_) | ((with_reducible refine gate_callee (f := 66) rfl ?_); refine goesL_ (some 22) rfl rfl Try.func66 (by kernel_rfl) rfl #[.int .i64 (wrap64 (x1_1 + 1))] rfl t1_ ?_; (with_reducible refine (laws_markText.calls k1 (wrap64 (x1_1 + 1)) t161 _ A6.out).mono ?_); rintro e w15 ⟨rfl, hb⟩; refine ⟨_, rfl, ?_⟩; replace HO_0 := Aside0.mk (Kd.R_below t49_ hb); replace HK := Aside0.mk (Kept.below (S := (fun k_ => P0_ k_)) t25_ hb); replace HB := Aside0.mk (below_step t0_ hb); (try clear hb); (try clear hb2); (try clear hk); (try clear hi); have p7 : 0 ≤ (x5_1 : Int) := of_decide_eq_true t7_; have q7 : (x5_1 : Int) < ((x0_1.length : Int) : Int) := of_decide_eq_true t7_; obtain ⟨ce7, hcl7, hM7, hcc7, hfr7⟩ := Kd.R_elem HO_0.out z65 (x5_1 : Int) p7 q7; obtain rfl := k65_openM hM7; have hx7_0 : w15.cell? ⟨go5, (x5_1 : Int).toNat * 4, none⟩ = some (.int .i64 ((rd_T65 y160 x5_1).f0)) := hcc7 0 _ rfl; have hx7_1 : w15.cell? ⟨go5, (x5_1 : Int).toNat * 4 + 1, none⟩ = some (.string ((rd_T65 y160 x5_1).f1)) := hcc7 1 _ rfl; have hx7_2 : w15.cell? ⟨go5, (x5_1 : Int).toNat * 4 + 2, none⟩ = some (.string ((rd_T65 y160 x5_1).f2)) := hcc7 2 _ rfl; have hx7_3 : w15.cell? ⟨go5, (x5_1 : Int).toNat * 4 + 3, none⟩ = some (.string ((rd_T65 y160 x5_1).f3)) := hcc7 3 _ rfl; have hf7_0 : w15.frozen? ⟨go5, (x5_1 : Int).toNat * 4, none⟩ = false := hfr7 0; have hf7_1 : w15.frozen? ⟨go5, (x5_1 : Int).toNat * 4 + 1, none⟩ = false := hfr7 1; have hf7_2 : w15.frozen? ⟨go5, (x5_1 : Int).toNat * 4 + 2, none⟩ = false := hfr7 2; have hf7_3 : w15.frozen? ⟨go5, (x5_1 : Int).toNat * 4 + 3, none⟩ = false := hfr7 3; clear hcl7 hcc7 hfr7 hM7; replace p7 := eq_true p7; replace q7 := eq_true q7; have HX16 := Aside0.mk (show Kd.R k65 65 w15 w0.heap.size (fun k_ => (P0_ k_ ∨ w.heap.size ≤ k_)) (.slice (some ⟨go5, 0, none⟩) x0_1.length co12) y160 from t49_); obtain ⟨ce16, hcl16, hM16, hcc16, hfr16⟩ := Kd.R_elem HX16.out z65 (x5_1 : Int) (of_decide_eq_true t7_) (by have h_ : (x5_1 : Int) < ((x0_1.length : Int) : Int) := of_decide_eq_true t7_; first | exact h_ | (have e_ := (Kd.R_reads' HO_0.out).1; omega) | simpa using h_); obtain rfl := k65_openM hM16; have HP16 := Kd.R_seg HX16.out (x5_1 : Int) (of_decide_eq_true t7_) (by have h_ : (x5_1 : Int) < ((x0_1.length : Int) : Int) := of_decide_eq_true t7_; first | exact h_ | (have e_ := (Kd.R_reads' HO_0.out).1; omega) | simpa using h_) (seg := [.string t161]) (j := 1) hcl16 hcc16 (show 2 ≤ 4 from by decide) (x' := (⟨(rd_T65 y160 x5_1).f0, t161, (rd_T65 y160 x5_1).f2, (rd_T65 y160 x5_1).f3⟩ : S65)) (k65_mkM _ _ _ (⟨(rd_T65 y160 x5_1).f0, t161, (rd_T65 y160 x5_1).f2, (rd_T65 y160 x5_1).f3⟩ : S65) ) (fun _ hk => hk); have hx16_1 := hcc16 1 _ rfl; (try simp only [show (k65).sz = 4 from rfl, Nat.mul_one, Nat.add_zero] at hx16_1); have hf16_1 := hfr16 1; (try simp only [show (k65).sz = 4 from rfl, Nat.mul_one, Nat.add_zero] at hf16_1); clear hcl16 hcc16 hfr16 hM16) | ((with_reducible refine gate_store (t := 9) (p := 24) rfl ?_); refine store_event (t := 9) (p := 24) (v := ?vo_w17) (w1 := (w15.setCell ⟨go5, (x5_1 : Int).toNat * 4 + 1, none⟩ (.string t161))) ?hg ?ho ?hn ?hr ?_; (case ho => rfl); (case hg => rfl); (case hn => rfl); (case hr => first | (go_simp; done) | (go_simp; rfl)); intro w17 hw; have hg : w15.grownBy w17 (some go5) := (by rw [hw]; exact HP16.2); have hp_ : Kd.R k65 65 w17 w0.heap.size (fun k_ => (P0_ k_ ∨ w.heap.size ≤ k_)) (.slice (some ⟨go5, 0, none⟩) x0_1.length co12) y162 := (by rw [hw, Ny162.out]; exact HP16.1); clear HP16; replace HB := Aside0.mk ((t82_ : Below w0.heap.size w0 w17)); replace HK := Aside0.mk (Kept.of_grown (S := (fun k_ => P0_ k_)) hg t25_ (fun k_ e_ => (HO_0.out.1 k_ e_))); replace HO_0 := Aside0.mk (hp_); clear hg hw hp_) | ((with_reducible refine gate_callee (f := 66) rfl ?_); refine goesL_ (some 30) rfl rfl Try.func66 (by kernel_rfl) rfl #[.int .i64 (wrap64 ((wrap64 (x1_1 + 1)) + 1))] rfl t1_ ?_; (with_reducible refine (laws_markText.calls k1 (wrap64 ((wrap64 (x1_1 + 1)) + 1)) t163 _ A8.out).mono ?_); rintro e w18 ⟨rfl, hb⟩; refine ⟨_, rfl, ?_⟩; replace HO_0 := Aside0.mk (Kd.R_below t49_ hb); replace HK := Aside0.mk (Kept.below (S := (fun k_ => P0_ k_)) t25_ hb); replace HB := Aside0.mk (below_step t0_ hb); (try clear hb); (try clear hb2); (try clear hk); (try clear hi); have p9 : 0 ≤ (x5_1 : Int) := of_decide_eq_true t7_; have q9 : (x5_1 : Int) < ((x0_1.length : Int) : Int) := of_decide_eq_true t7_; obtain ⟨ce9, hcl9, hM9, hcc9, hfr9⟩ := Kd.R_elem HO_0.out z65 (x5_1 : Int) p9 q9; obtain rfl := k65_openM hM9; have hx9_0 : w18.cell? ⟨go5, (x5_1 : Int).toNat * 4, none⟩ = some (.int .i64 ((rd_T65 y162 x5_1).f0)) := hcc9 0 _ rfl; have hx9_1 : w18.cell? ⟨go5, (x5_1 : Int).toNat * 4 + 1, none⟩ = some (.string ((rd_T65 y162 x5_1).f1)) := hcc9 1 _ rfl; have hx9_2 : w18.cell? ⟨go5, (x5_1 : Int).toNat * 4 + 2, none⟩ = some (.string ((rd_T65 y162 x5_1).f2)) := hcc9 2 _ rfl; have hx9_3 : w18.cell? ⟨go5, (x5_1 : Int).toNat * 4 + 3, none⟩ = some (.string ((rd_T65 y162 x5_1).f3)) := hcc9 3 _ rfl; have hf9_0 : w18.frozen? ⟨go5, (x5_1 : Int).toNat * 4, none⟩ = false := hfr9 0; have hf9_1 : w18.frozen? ⟨go5, (x5_1 : Int).toNat * 4 + 1, none⟩ = false := hfr9 1; have hf9_2 : w18.frozen? ⟨go5, (x5_1 : Int).toNat * 4 + 2, none⟩ = false := hfr9 2; have hf9_3 : w18.frozen? ⟨go5, (x5_1 : Int).toNat * 4 + 3, none⟩ = false := hfr9 3; clear hcl9 hcc9 hfr9 hM9; replace p9 := eq_true p9; replace q9 := eq_true q9; have HX19 := Aside0.mk (show Kd.R k65 65 w18 w0.heap.size (fun k_ => (P0_ k_ ∨ w.heap.size ≤ k_)) (.slice (some ⟨go5, 0, none⟩) x0_1.length co12) y162 from t49_); obtain ⟨ce19, hcl19, hM19, hcc19, hfr19⟩ := Kd.R_elem HX19.out z65 (x5_1 : Int) (of_decide_eq_true t7_) (by have h_ : (x5_1 : Int) < ((x0_1.length : Int) : Int) := of_decide_eq_true t7_; first | exact h_ | (have e_ := (Kd.R_reads' HO_0.out).1; omega) | simpa using h_); obtain rfl := k65_openM hM19; have HP19 := Kd.R_seg HX19.out (x5_1 : Int) (of_decide_eq_true t7_) (by have h_ : (x5_1 : Int) < ((x0_1.length : Int) : Int) := of_decide_eq_true t7_; first | exact h_ | (have e_ := (Kd.R_reads' HO_0.out).1; omega) | simpa using h_) (seg := [.string t163]) (j := 2) hcl19 hcc19 (show 3 ≤ 4 from by decide) (x' := (⟨(rd_T65 y162 x5_1).f0, (rd_T65 y162 x5_1).f1, t163, (rd_T65 y162 x5_1).f3⟩ : S65)) (k65_mkM _ _ _ (⟨(rd_T65 y162 x5_1).f0, (rd_T65 y162 x5_1).f1, t163, (rd_T65 y162 x5_1).f3⟩ : S65) ) (fun _ hk => hk); have hx19_2 := hcc19 2 _ rfl; (try simp only [show (k65).sz = 4 from rfl, Nat.mul_one, Nat.add_zero] at hx19_2); have hf19_2 := hfr19 2; (try simp only [show (k65).sz = 4 from rfl, Nat.mul_one, Nat.add_zero] at hf19_2); clear hcl19 hcc19 hfr19 hM19) | ((with_reducible refine gate_store (t := 9) (p := 32) rfl ?_); refine store_event (t := 9) (p := 32) (v := ?vo_w20) (w1 := (w18.setCell ⟨go5, (x5_1 : Int).toNat * 4 + 2, none⟩ (.string t163))) ?hg ?ho ?hn ?hr ?_; (case ho => rfl); (case hg => rfl); (case hn => rfl); (case hr => first | (go_simp; done) | (go_simp; rfl)); intro w20 hw; have hg : w18.grownBy w20 (some go5) := (by rw [hw]; exact HP19.2); have hp_ : Kd.R k65 65 w20 w0.heap.size (fun k_ => (P0_ k_ ∨ w.heap.size ≤ k_)) (.slice (some ⟨go5, 0, none⟩) x0_1.length co12) y164 := (by rw [hw, Ny164.out]; exact HP19.1); clear HP19; replace HB := Aside0.mk ((t82_ : Below w0.heap.size w0 w20)); replace HK := Aside0.mk (Kept.of_grown (S := (fun k_ => P0_ k_)) hg t25_ (fun k_ e_ => (HO_0.out.1 k_ e_))); replace HO_0 := Aside0.mk (hp_); clear hg hw hp_) | ((with_reducible refine gate_callee (f := 66) rfl ?_); refine goesL_ (some 38) rfl rfl Try.func66 (by kernel_rfl) rfl #[.int .i64 (wrap64 ((wrap64 ((wrap64 (x1_1 + 1)) + 1)) + 1))] rfl t1_ ?_; (with_reducible refine (laws_markText.calls k1 (wrap64 ((wrap64 ((wrap64 (x1_1 + 1)) + 1)) + 1)) t165 _ A10.out).mono ?_); rintro e w21 ⟨rfl, hb⟩; refine ⟨_, rfl, ?_⟩; replace HO_0 := Aside0.mk (Kd.R_below t49_ hb); replace HK := Aside0.mk (Kept.below (S := (fun k_ => P0_ k_)) t25_ hb); replace HB := Aside0.mk (below_step t0_ hb); (try clear hb); (try clear hb2); (try clear hk); (try clear hi); have p11 : 0 ≤ (x5_1 : Int) := of_decide_eq_true t7_; have q11 : (x5_1 : Int) < ((x0_1.length : Int) : Int) := of_decide_eq_true t7_; obtain ⟨ce11, hcl11, hM11, hcc11, hfr11⟩ := Kd.R_elem HO_0.out z65 (x5_1 : Int) p11 q11; obtain rfl := k65_openM hM11; have hx11_0 : w21.cell? ⟨go5, (x5_1 : Int).toNat * 4, none⟩ = some (.int .i64 ((rd_T65 y164 x5_1).f0)) := hcc11 0 _ rfl; have hx11_1 : w21.cell? ⟨go5, (x5_1 : Int).toNat * 4 + 1, none⟩ = some (.string ((rd_T65 y164 x5_1).f1)) := hcc11 1 _ rfl; have hx11_2 : w21.cell? ⟨go5, (x5_1 : Int).toNat * 4 + 2, none⟩ = some (.string ((rd_T65 y164 x5_1).f2)) := hcc11 2 _ rfl; have hx11_3 : w21.cell? ⟨go5, (x5_1 : Int).toNat * 4 + 3, none⟩ = some (.string ((rd_T65 y164 x5_1).f3)) := hcc11 3 _ rfl; have hf11_0 : w21.frozen? ⟨go5, (x5_1 : Int).toNat * 4, none⟩ = false := hfr11 0; have hf11_1 : w21.frozen? ⟨go5, (x5_1 : Int).toNat * 4 + 1, none⟩ = false := hfr11 1; have hf11_2 : w21.frozen? ⟨go5, (x5_1 : Int).toNat * 4 + 2, none⟩ = false := hfr11 2; have hf11_3 : w21.frozen? ⟨go5, (x5_1 : Int).toNat * 4 + 3, none⟩ = false := hfr11 3; clear hcl11 hcc11 hfr11 hM11; replace p11 := eq_true p11; replace q11 := eq_true q11; have HX22 := Aside0.mk (show Kd.R k65 65 w21 w0.heap.size (fun k_ => (P0_ k_ ∨ w.heap.size ≤ k_)) (.slice (some ⟨go5, 0, none⟩) x0_1.length co12) y164 from t49_); obtain ⟨ce22, hcl22, hM22, hcc22, hfr22⟩ := Kd.R_elem HX22.out z65 (x5_1 : Int) (of_decide_eq_true t7_) (by have h_ : (x5_1 : Int) < ((x0_1.length : Int) : Int) := of_decide_eq_true t7_; first | exact h_ | (have e_ := (Kd.R_reads' HO_0.out).1; omega) | simpa using h_); obtain rfl := k65_openM hM22; have HP22 := Kd.R_seg HX22.out (x5_1 : Int) (of_decide_eq_true t7_) (by have h_ : (x5_1 : Int) < ((x0_1.length : Int) : Int) := of_decide_eq_true t7_; first | exact h_ | (have e_ := (Kd.R_reads' HO_0.out).1; omega) | simpa using h_) (seg := [.string t165]) (j := 3) hcl22 hcc22 (show 4 ≤ 4 from by decide) (x' := (⟨(rd_T65 y164 x5_1).f0, (rd_T65 y164 x5_1).f1, (rd_T65 y164 x5_1).f2, t165⟩ : S65)) (k65_mkM _ _ _ (⟨(rd_T65 y164 x5_1).f0, (rd_T65 y164 x5_1).f1, (rd_T65 y164 x5_1).f2, t165⟩ : S65) ) (fun _ hk => hk); have hx22_3 := hcc22 3 _ rfl; (try simp only [show (k65).sz = 4 from rfl, Nat.mul_one, Nat.add_zero] at hx22_3); have hf22_3 := hfr22 3; (try simp only [show (k65).sz = 4 from rfl, Nat.mul_one, Nat.add_zero] at hf22_3); clear hcl22 hcc22 hfr22 hM22) | ((with_reducible refine gate_store (t := 9) (p := 40) rfl ?_); refine store_event (t := 9) (p := 40) (v := ?vo_w23) (w1 := (w21.setCell ⟨go5, (x5_1 : Int).toNat * 4 + 3, none⟩ (.string t165))) ?hg ?ho ?hn ?hr ?_; (case ho => rfl); (case hg => rfl); (case hn => rfl); (case hr => first | (go_simp; done) | (go_simp; rfl)); intro w23 hw; have hg : w21.grownBy w23 (some go5) := (by rw [hw]; exact HP22.2); have hp_ : Kd.R k65 65 w23 w0.heap.size (fun k_ => (P0_ k_ ∨ w.heap.size ≤ k_)) (.slice (some ⟨go5, 0, none⟩) x0_1.length co12) y166 := (by rw [hw, Ny166.out]; exact HP22.1); clear HP22; replace HB := Aside0.mk ((t82_ : Below w0.heap.size w0 w23)); replace HK := Aside0.mk (Kept.of_grown (S := (fun k_ => P0_ k_)) hg t25_ (fun k_ e_ => (HO_0.out.1 k_ e_))); replace HO_0 := Aside0.mk (hp_); clear hg hw hp_))
          go_roundg k1
          case measure => have := HK1.out; omega
          case rel => exact ⟨(y166), (wrap64 ((wrap64 ((wrap64 ((wrap64 (x1_1 + 1)) + 1)) + 1)) + 1)), (wrap64 (x5_1 + 1)), t19_, t19_, H', ⟨by have := HK1.out; omega⟩, ⟨by (with_reducible repeat (first | apply Kd.R_alloc | apply Kd.R_drewN | apply Kd.R_drew)); exact HO_0.out⟩, ⟨t25_⟩, ⟨t0_⟩⟩
        · rw [if_neg c4] at H
          exact absurd H (by simp)
      · rw [if_neg c3] at H
        have c3b0 : decide (x5_1 < (x0_1.length : Int)) = false := decide_eq_false c3
        clear c3
        simp only [Option.some.injEq, Prod.mk.injEq] at H
        obtain ⟨rfl, rfl⟩ := H
        obtain ⟨Ao24, co24, eo24⟩ := Kd.R_slice HO_0.out
        subst eo24
        go_wp2
        go_ret
        exact ⟨by first | rfl | (simp [errW_none, errW_some] <;> rfl) | (simp [*, errW_none, errW_some] <;> rfl), by (with_reducible repeat (first | apply Kd.R_alloc | apply Kd.R_drewN | apply Kd.R_drew)); exact HO_0.out, t0_, t25_⟩

/-! ### laws_heldFileS: function 67 -/
def laws_heldFileS.l0 : Nat → List (S71) → Int → Int → Option (Int)
  | 0, _, _, _ => none
  | k + 1, x0, x1, x5 => if x5 < (x0.length : Int) then (if 0 ≤ x5 then ((laws_markText.f k x1).bind fun t168 => (if ((rd_T71 x0 x5).f0).toList = t168.toList then ((laws_markText.f k (wrap64 (x1 + 1))).bind fun t170 => (if ((rd_T71 x0 x5).f1).toList = t170.toList then (laws_heldFileS.l0 k x0 (wrap64 ((wrap64 (x1 + 1)) + 1)) (wrap64 (x5 + 1))) else (none))) else (none))) else (none)) else (some x1)
def laws_heldFileS.f (k : Nat) (l0 : List (S71)) (a1 : Int) : Option (Int) := laws_heldFileS.l0 k l0 a1 0
theorem laws_heldFileS.mono_l : ∀ k, (∀ y0 y1 y2, LeO (laws_heldFileS.l0 k y0 y1 y2) (laws_heldFileS.l0 (k + 1) y0 y1 y2))
  | 0 => fun _ _ _ r h => by simp [laws_heldFileS.l0] at h
  | k + 1 => by
    have ih0 := laws_heldFileS.mono_l k
    · intro y0 y1 y2
      unfold laws_heldFileS.l0
      repeat' first
      | (with_reducible exact ih0 _ _ _)
      | (with_reducible exact laws_markText.mono _ _)
      | (with_reducible exact LeO.refl _)
      | (with_reducible exact LeO.none _)
      | (with_reducible refine LeO.ite ?_ ?_)
      | (with_reducible refine LeO.bind ?_ (fun _ => ?_))
      | exact ih0 _ _ _
      | exact laws_markText.mono _ _
      | exact LeO.none _
      | refine LeO.ite ?_ ?_
      | refine LeO.bind ?_ (fun _ => ?_)
theorem laws_heldFileS.mono : ∀ a0 a1 k, LeO (laws_heldFileS.f k a0 a1) (laws_heldFileS.f (k + 1) a0 a1) := by
  intro a0 a1 k
  have ih0 := laws_heldFileS.mono_l k
  unfold laws_heldFileS.f
  repeat' first
      | (with_reducible exact ih0 _ _ _)
      | (with_reducible exact laws_markText.mono _ _)
      | (with_reducible exact LeO.refl _)
      | (with_reducible exact LeO.none _)
      | (with_reducible refine LeO.ite ?_ ?_)
      | (with_reducible refine LeO.bind ?_ (fun _ => ?_))
      | exact ih0 _ _ _
      | exact laws_markText.mono _ _
      | exact LeO.none _
      | refine LeO.ite ?_ ?_
      | refine LeO.bind ?_ (fun _ => ?_)
def laws_heldFileS.T4 : Bool × List (List Nat × List Nat) := (true, [([], []), ([], []), ([0, 1], [0, 1]), ([2], [2]), ([3], [3]), ([], []), ([5], [5]), ([4, 6], [4, 6])])
def laws_heldFileS.B4 : List Nat := [0, 0, 3, 7, 15, 0, 32, 127]
theorem laws_heldFileS.tab4 : rtab .any (opsOf Try.f67 4) = laws_heldFileS.T4 := by kernel_rfl
theorem laws_heldFileS.bits4 : waitsOk laws_heldFileS.T4.2 laws_heldFileS.B4 = true := by kernel_rfl
def laws_heldFileS.T7 : Bool × List (List Nat × List Nat) := (true, [([], []), ([], []), ([0, 1], [0, 1]), ([2], [2]), ([3], [3]), ([], []), ([5], [5]), ([4, 6], [4, 6])])
def laws_heldFileS.B7 : List Nat := [0, 0, 3, 7, 15, 0, 32, 127]
theorem laws_heldFileS.tab7 : rtab .any (opsOf Try.f67 7) = laws_heldFileS.T7 := by kernel_rfl
theorem laws_heldFileS.bits7 : waitsOk laws_heldFileS.T7.2 laws_heldFileS.B7 = true := by kernel_rfl
set_option maxHeartbeats 8000000 in
set_option maxRecDepth 100000 in
theorem laws_heldFileS.calls (k : Nat) (A0 : Option Addr) (c0 : Nat) (l0 : List (S71)) (a1 : Int) (r : Int) (w : World) (hr0 : Kd.C k71 w A0 l0.length l0) (hc0 : l0.length ≤ c0) (h : laws_heldFileS.f k l0 a1 = some r) :
    Calls Try.prog 67 #[.slice A0 l0.length c0, .int .i64 a1] w fun e w' => e = .returned (.int .i64 r) ∧ Below w.heap.size w w' := by
  have HR0 := Aside0.mk hr0
  have HC0 := Aside0.mk hc0
  clear hr0 hc0
  have HB := Aside0.mk (Below.refl w.heap.size w)
  have H : (laws_heldFileS.l0 k l0 a1 0) = some r := h
  clear h
  have H' := Aside0.mk H
  clear H
  go_enter Try.func67, Try.ntmps67
  go_wp2
  go_loopg [1, 5] k (fun kq v1 v5 w' => ∃ (x1_1 : Int) (x5_1 : Int), v1 = .int .i64 x1_1 ∧ v5 = .int .i64 x5_1 ∧ Aside0 (laws_heldFileS.l0 kq l0 x1_1 x5_1 = some r) ∧ Aside0 (kq ≤ k) ∧ Aside0 (Below w.heap.size w w'))
  case atStart => exact ⟨(a1), (0), t19_, t19_, H', ⟨Nat.le_refl _⟩, ⟨t0_⟩⟩
  case round =>
    clear H'
    try clear p2
    obtain ⟨x1_1, x5_1, rfl, rfl, HA, HK1, HB⟩ := hrel
    cases gk with
    | zero => exact absurd HA.out (by simp [laws_heldFileS.l0])
    | succ k1 =>
      have H := HA.out
      clear HA
      simp only [laws_heldFileS.l0] at H
      by_cases c3 : x5_1 < (l0.length : Int)
      · rw [if_pos c3] at H
        have c3b0 : decide (x5_1 < (l0.length : Int)) = true := decide_eq_true c3
        clear c3
        by_cases c4 : 0 ≤ x5_1
        · rw [if_pos c4] at H
          have c4b0 : decide (0 ≤ x5_1) = true := decide_eq_true c4
          clear c4
          replace H := Option.bind_eq_some_iff.mp H
          obtain ⟨t168, A50, H⟩ := H
          replace H : (if ((rd_T71 l0 x5_1).f0).toList = t168.toList then ((laws_markText.f k1 (wrap64 (x1_1 + 1))).bind fun t170 => (if ((rd_T71 l0 x5_1).f1).toList = t170.toList then (laws_heldFileS.l0 k1 l0 (wrap64 ((wrap64 (x1_1 + 1)) + 1)) (wrap64 (x5_1 + 1))) else (none))) else (none)) = some r := H
          have A5 := Aside0.mk A50
          clear A50
          by_cases c6 : ((rd_T71 l0 x5_1).f0).toList = t168.toList
          · rw [if_pos c6] at H
            have c6b0 : (((rd_T71 l0 x5_1).f0).toList == t168.toList) = true := beq_iff_eq.mpr c6
            have c6b1 : (((rd_T71 l0 x5_1).f0).toList != t168.toList) = false := bne_eq_false_iff_eq.mpr c6
            clear c6
            replace H := Option.bind_eq_some_iff.mp H
            obtain ⟨t170, A70, H⟩ := H
            replace H : (if ((rd_T71 l0 x5_1).f1).toList = t170.toList then (laws_heldFileS.l0 k1 l0 (wrap64 ((wrap64 (x1_1 + 1)) + 1)) (wrap64 (x5_1 + 1))) else (none)) = some r := H
            have A7 := Aside0.mk A70
            clear A70
            by_cases c8 : ((rd_T71 l0 x5_1).f1).toList = t170.toList
            · rw [if_pos c8] at H
              have c8b0 : (((rd_T71 l0 x5_1).f1).toList == t170.toList) = true := beq_iff_eq.mpr c8
              have c8b1 : (((rd_T71 l0 x5_1).f1).toList != t170.toList) = false := bne_eq_false_iff_eq.mpr c8
              clear c8
              have H' := Aside0.mk H
              clear H
              try go_wp2
              replace HB := Aside0.mk (below_drew1 HB.out)
              have p167 : 0 ≤ (x5_1 : Int) := of_decide_eq_true t7_
              have q167 : x5_1 < (l0.length : Int) := of_decide_eq_true t7_
              obtain ⟨ad167, e167, hx167_0, hx167_1⟩ := at_T71 HR0.out x5_1 p167 q167
              have hw167_1 := hx167_1
              have hw167_0 := hx167_0
              cases e167
              replace hx167_0 := (HB.out.cell (World.block_lt_of_cell? w _ hx167_0)).trans hx167_0
              replace hx167_1 := (HB.out.cell (World.block_lt_of_cell? w _ hx167_1)).trans hx167_1
              replace p167 := eq_true p167
              replace q167 := eq_true q167
              refine start_ (n := 8) (S := fun w' => w'.cell? (ad167.add ((x5_1).toNat * 2)) = some (.string ((rd_T71 l0 x5_1).f0)) ∧ w'.cell? ⟨(ad167.add ((x5_1).toNat * 2)).block, (ad167.add ((x5_1).toNat * 2)).off + 1, none⟩ = some (.string ((rd_T71 l0 x5_1).f1))) (ds := []) #[false, false, false, false, false, false, false, false] (by kernel_rfl) rfl rfl ⟨((HB.out.cell (World.block_lt_of_cell? w _ hw167_0)).trans hw167_0), ((HB.out.cell (World.block_lt_of_cell? w _ hw167_1)).trans hw167_1)⟩ (fun hHeld => ?_); refine with_tabW laws_heldFileS.tab4 laws_heldFileS.bits4 (fun HT_ HW_ => ?_)
              generalize wr.drew = w9 at HB hx167_0 hx167_1 hHeld ⊢
              refine pure_ (i := 0) (N := some 12) (v := ?_) (a' := ?_) #[true, false, false, false, false, false, false, false] rfl rfl (any_of HT_.out (by kernel_rfl)) (fun _ _ _ h => h) (Or.inl ⟨by rfl, ?_⟩) ?_ ?_
              rotate_left
              · intro w'
                go_simp
                with_reducible rfl
              rotate_left
              · simp only [Act.put, List.setIfInBounds_toArray, List.set_cons_zero, List.set_cons_succ, i64_w, i32_w]
                rfl
              refine pure_ (i := 1) (N := some 13) (v := ?_) (a' := ?_) #[true, true, false, false, false, false, false, false] rfl rfl (any_of HT_.out (by kernel_rfl)) (fun _ _ _ h => h) (Or.inl ⟨by rfl, ?_⟩) ?_ ?_
              rotate_left
              · intro w'
                go_simp
                with_reducible rfl
              rotate_left
              · simp only [Act.put, List.setIfInBounds_toArray, List.set_cons_zero, List.set_cons_succ, i64_w, i32_w]
                rfl
              refine pure_ (i := 2) (N := some 14) (v := ?_) (a' := ?_) #[true, true, true, false, false, false, false, false] rfl rfl (any_of HT_.out (by kernel_rfl)) (fun _ _ _ h => h) (Or.inl ⟨by rfl, ?_⟩) ?_ ?_
              rotate_left
              · intro w'
                go_simp
                with_reducible rfl
              rotate_left
              · simp only [Act.put, List.setIfInBounds_toArray, List.set_cons_zero, List.set_cons_succ, i64_w, i32_w]
                rfl
              refine pure_ (i := 3) (N := some 15) (v := ?_) (a' := ?_) #[true, true, true, true, false, false, false, false] rfl rfl (any_of HT_.out (by kernel_rfl)) (fun _ _ _ h => h) (Or.inl ⟨by rfl, ?_⟩) ?_ ?_
              rotate_left
              · intro w'
                go_simp
                with_reducible rfl
              rotate_left
              · simp only [Act.put, List.setIfInBounds_toArray, List.set_cons_zero, List.set_cons_succ, i64_w, i32_w]
                rfl
              refine pure_ (i := 5) (N := some 17) (v := ?_) (a' := ?_) #[true, true, true, true, false, true, false, false] rfl rfl (any_of HT_.out (by kernel_rfl)) (fun _ _ _ h => h) (Or.inl ⟨by rfl, ?_⟩) ?_ ?_
              rotate_left
              · intro w'
                go_simp
                with_reducible rfl
              rotate_left
              · simp only [Act.put, List.setIfInBounds_toArray, List.set_cons_zero, List.set_cons_succ, i64_w, i32_w]
                rfl
              refine take_ (i := 4) (N := some 16) (v := ?_) (a' := ?_) #[true, true, true, true, true, true, false, false] rfl rfl (take_ofW HT_.out HW_.out (by kernel_rfl)) (fun _ _ _ h => h) (Or.inl ⟨by rfl, ?_⟩) hHeld ?_ ?_
              rotate_left
              · rintro w' ⟨s0, s1⟩
                go_simp
                with_reducible rfl
              rotate_left
              · simp only [Act.put, List.setIfInBounds_toArray, List.set_cons_zero, List.set_cons_succ, i64_w, i32_w]
                rfl
              refine one_ (i := 6) (N := some 18) #[true, true, true, true, true, true, true, false] rfl rfl (one_of HT_.out (by kernel_rfl)) (by decide) (fun K hK => ?_)
              refine goes_ Try.func66 (by kernel_rfl) rfl #[.int .i64 x1_1] (by rfl) rfl rfl t1_ ?_
              with_reducible refine (laws_markText.calls k1 x1_1 t168 _ A5.out).mono ?_
              rintro e w10 ⟨rfl, hb⟩
              refine ⟨_, rfl, ?_⟩
              replace HB := Aside0.mk (below_step t0_ hb)
              (try clear hb)
              (try clear hb2)
              (try clear hk)
              (try clear hi)
              refine hK.out _ _ ⟨((HB.out.cell (World.block_lt_of_cell? w _ hw167_0)).trans hw167_0), ((HB.out.cell (World.block_lt_of_cell? w _ hw167_1)).trans hw167_1)⟩ (fun hHeld => ?_)
              clear hK K
              refine norm_ (a' := ?_) ?_ ?_
              rotate_left
              · show Act.put _ (some 18) _ = _
                simp only [Act.put, List.setIfInBounds_toArray, List.set_cons_zero, List.set_cons_succ, i64_w, i32_w]
                rfl
              refine pure_ (i := 7) (N := some 19) (v := ?_) (a' := ?_) #[true, true, true, true, true, true, true, true] rfl rfl (any_of HT_.out (by kernel_rfl)) (fun _ _ _ h => h) (Or.inl ⟨by rfl, ?_⟩) ?_ ?_
              rotate_left
              · intro w'
                go_simp
                with_reducible rfl
              rotate_left
              · simp only [Act.put, List.setIfInBounds_toArray, List.set_cons_zero, List.set_cons_succ, i64_w, i32_w]
                rfl
              refine done_ (done_of HT_.out (by kernel_rfl)) ?_
              try go_wp2
              replace HB := Aside0.mk (below_drew1 HB.out)
              have p169 : 0 ≤ (x5_1 : Int) := of_decide_eq_true t7_
              have q169 : x5_1 < (l0.length : Int) := of_decide_eq_true t7_
              obtain ⟨ad169, e169, hx169_0, hx169_1⟩ := at_T71 HR0.out x5_1 p169 q169
              have hw169_1 := hx169_1
              have hw169_0 := hx169_0
              obtain rfl : ad167 = ad169 := (by injection e169)
              replace hx169_0 := (HB.out.cell (World.block_lt_of_cell? w _ hx169_0)).trans hx169_0
              replace hx169_1 := (HB.out.cell (World.block_lt_of_cell? w _ hx169_1)).trans hx169_1
              replace p169 := eq_true p169
              replace q169 := eq_true q169
              refine start_ (n := 8) (S := fun w' => w'.cell? (ad167.add ((x5_1).toNat * 2)) = some (.string ((rd_T71 l0 x5_1).f0)) ∧ w'.cell? ⟨(ad167.add ((x5_1).toNat * 2)).block, (ad167.add ((x5_1).toNat * 2)).off + 1, none⟩ = some (.string ((rd_T71 l0 x5_1).f1))) (ds := []) #[false, false, false, false, false, false, false, false] (by kernel_rfl) rfl rfl ⟨((HB.out.cell (World.block_lt_of_cell? w _ hw169_0)).trans hw169_0), ((HB.out.cell (World.block_lt_of_cell? w _ hw169_1)).trans hw169_1)⟩ (fun hHeld => ?_); refine with_tabW laws_heldFileS.tab7 laws_heldFileS.bits7 (fun HT_ HW_ => ?_)
              generalize w10.drew = w11 at HB hx169_0 hx169_1 hHeld ⊢
              refine pure_ (i := 0) (N := some 22) (v := ?_) (a' := ?_) #[true, false, false, false, false, false, false, false] rfl rfl (any_of HT_.out (by kernel_rfl)) (fun _ _ _ h => h) (Or.inl ⟨by rfl, ?_⟩) ?_ ?_
              rotate_left
              · intro w'
                go_simp
                with_reducible rfl
              rotate_left
              · simp only [Act.put, List.setIfInBounds_toArray, List.set_cons_zero, List.set_cons_succ, i64_w, i32_w]
                rfl
              refine pure_ (i := 1) (N := some 23) (v := ?_) (a' := ?_) #[true, true, false, false, false, false, false, false] rfl rfl (any_of HT_.out (by kernel_rfl)) (fun _ _ _ h => h) (Or.inl ⟨by rfl, ?_⟩) ?_ ?_
              rotate_left
              · intro w'
                go_simp
                with_reducible rfl
              rotate_left
              · simp only [Act.put, List.setIfInBounds_toArray, List.set_cons_zero, List.set_cons_succ, i64_w, i32_w]
                rfl
              refine pure_ (i := 2) (N := some 24) (v := ?_) (a' := ?_) #[true, true, true, false, false, false, false, false] rfl rfl (any_of HT_.out (by kernel_rfl)) (fun _ _ _ h => h) (Or.inl ⟨by rfl, ?_⟩) ?_ ?_
              rotate_left
              · intro w'
                go_simp
                with_reducible rfl
              rotate_left
              · simp only [Act.put, List.setIfInBounds_toArray, List.set_cons_zero, List.set_cons_succ, i64_w, i32_w]
                rfl
              refine pure_ (i := 3) (N := some 25) (v := ?_) (a' := ?_) #[true, true, true, true, false, false, false, false] rfl rfl (any_of HT_.out (by kernel_rfl)) (fun _ _ _ h => h) (Or.inl ⟨by rfl, ?_⟩) ?_ ?_
              rotate_left
              · intro w'
                go_simp
                with_reducible rfl
              rotate_left
              · simp only [Act.put, List.setIfInBounds_toArray, List.set_cons_zero, List.set_cons_succ, i64_w, i32_w]
                rfl
              refine pure_ (i := 5) (N := some 27) (v := ?_) (a' := ?_) #[true, true, true, true, false, true, false, false] rfl rfl (any_of HT_.out (by kernel_rfl)) (fun _ _ _ h => h) (Or.inl ⟨by rfl, ?_⟩) ?_ ?_
              rotate_left
              · intro w'
                go_simp
                with_reducible rfl
              rotate_left
              · simp only [Act.put, List.setIfInBounds_toArray, List.set_cons_zero, List.set_cons_succ, i64_w, i32_w]
                rfl
              refine take_ (i := 4) (N := some 26) (v := ?_) (a' := ?_) #[true, true, true, true, true, true, false, false] rfl rfl (take_ofW HT_.out HW_.out (by kernel_rfl)) (fun _ _ _ h => h) (Or.inl ⟨by rfl, ?_⟩) hHeld ?_ ?_
              rotate_left
              · rintro w' ⟨s0, s1⟩
                go_simp
                with_reducible rfl
              rotate_left
              · simp only [Act.put, List.setIfInBounds_toArray, List.set_cons_zero, List.set_cons_succ, i64_w, i32_w]
                rfl
              refine one_ (i := 6) (N := some 28) #[true, true, true, true, true, true, true, false] rfl rfl (one_of HT_.out (by kernel_rfl)) (by decide) (fun K hK => ?_)
              refine goes_ Try.func66 (by kernel_rfl) rfl #[.int .i64 (wrap64 (x1_1 + 1))] (by rfl) rfl rfl t1_ ?_
              with_reducible refine (laws_markText.calls k1 (wrap64 (x1_1 + 1)) t170 _ A7.out).mono ?_
              rintro e w12 ⟨rfl, hb⟩
              refine ⟨_, rfl, ?_⟩
              replace HB := Aside0.mk (below_step t0_ hb)
              (try clear hb)
              (try clear hb2)
              (try clear hk)
              (try clear hi)
              refine hK.out _ _ ⟨((HB.out.cell (World.block_lt_of_cell? w _ hw169_0)).trans hw169_0), ((HB.out.cell (World.block_lt_of_cell? w _ hw169_1)).trans hw169_1)⟩ (fun hHeld => ?_)
              clear hK K
              refine norm_ (a' := ?_) ?_ ?_
              rotate_left
              · show Act.put _ (some 28) _ = _
                simp only [Act.put, List.setIfInBounds_toArray, List.set_cons_zero, List.set_cons_succ, i64_w, i32_w]
                rfl
              refine pure_ (i := 7) (N := some 29) (v := ?_) (a' := ?_) #[true, true, true, true, true, true, true, true] rfl rfl (any_of HT_.out (by kernel_rfl)) (fun _ _ _ h => h) (Or.inl ⟨by rfl, ?_⟩) ?_ ?_
              rotate_left
              · intro w'
                go_simp
                with_reducible rfl
              rotate_left
              · simp only [Act.put, List.setIfInBounds_toArray, List.set_cons_zero, List.set_cons_succ, i64_w, i32_w]
                rfl
              refine done_ (done_of HT_.out (by kernel_rfl)) ?_
              try go_wp2
              go_roundg k1
              case measure => have := HK1.out; omega
              case rel => exact ⟨(wrap64 ((wrap64 (x1_1 + 1)) + 1)), (wrap64 (x5_1 + 1)), t19_, t19_, H', ⟨by have := HK1.out; omega⟩, ⟨t0_⟩⟩
            · rw [if_neg c8] at H
              exact absurd H (by simp)
          · rw [if_neg c6] at H
            exact absurd H (by simp)
        · rw [if_neg c4] at H
          exact absurd H (by simp)
      · rw [if_neg c3] at H
        have c3b0 : decide (x5_1 < (l0.length : Int)) = false := decide_eq_false c3
        clear c3
        obtain rfl := Option.some.inj H
        go_wp2
        go_ret
        exact ⟨by first | rfl | (simp [errW_none, errW_some] <;> rfl) | (simp [*, errW_none, errW_some] <;> rfl), t0_⟩

/-! ### laws_heldDisk: function 21 -/
def laws_heldDisk.f (k : Nat) (l0_0 : List (S71)) (a1 : Int) : Option (Int) := (laws_heldFileS.f k l0_0 a1).bind fun t172 => (if t172 < 0 then (none) else (some t172))
theorem laws_heldDisk.mono : ∀ a0 a1 k, LeO (laws_heldDisk.f k a0 a1) (laws_heldDisk.f (k + 1) a0 a1) := by
  intro a0 a1 k
  unfold laws_heldDisk.f
  repeat' first
      | (with_reducible exact laws_heldFileS.mono _ _ _)
      | (with_reducible exact LeO.refl _)
      | (with_reducible exact LeO.none _)
      | (with_reducible refine LeO.ite ?_ ?_)
      | (with_reducible refine LeO.bind ?_ (fun _ => ?_))
      | exact laws_heldFileS.mono _ _ _
      | exact LeO.none _
      | refine LeO.ite ?_ ?_
      | refine LeO.bind ?_ (fun _ => ?_)
set_option maxHeartbeats 8000000 in
set_option maxRecDepth 100000 in
theorem laws_heldDisk.calls (k : Nat) (A0_0 : Option Addr) (c0_0 : Nat) (l0_0 : List (S71)) (a1 : Int) (r : Int) (w : World) (hr0_0 : Kd.C k71 w A0_0 l0_0.length l0_0) (hc0_0 : l0_0.length ≤ c0_0) (h : laws_heldDisk.f k l0_0 a1 = some r) :
    Calls Try.prog 21 #[.agg #[.slice A0_0 l0_0.length c0_0], .int .i64 a1] w fun e w' => e = .returned (.int .i64 r) ∧ Below w.heap.size w w' := by
  have hu30 := Try.underlying30
  have HR0_0 := Aside0.mk hr0_0
  have HC0_0 := Aside0.mk hc0_0
  clear hr0_0 hc0_0
  have HB := Aside0.mk (Below.refl w.heap.size w)
  have H : ((laws_heldFileS.f k l0_0 a1).bind fun t172 => (if t172 < 0 then (none) else (some t172))) = some r := h
  clear h
  replace H := Option.bind_eq_some_iff.mp H
  obtain ⟨t172, A30, H⟩ := H
  replace H : (if t172 < 0 then (none) else (some t172)) = some r := H
  have A3 := Aside0.mk A30
  clear A30
  by_cases c4 : t172 < 0
  · rw [if_pos c4] at H
    exact absurd H (by simp)
  · rw [if_neg c4] at H
    have c4b0 : decide (t172 < 0) = false := decide_eq_false c4
    clear c4
    obtain rfl := Option.some.inj H
    go_enter Try.func21, Try.ntmps21
    go_wp2_with (first | ((with_reducible refine gate_dst (N := 2) rfl ?_); refine boxE (N := 2) (cs := #[.slice A0_0 l0_0.length c0_0]) (t := 30) (h := ?_); intro gb171 hg w5 hbox hb; have BK171 := Aside0.mk (hbox); have GW171 := Aside0.mk ((t4_ : w.heap.size ≤ gb171)); have GE171 := Aside0.mk ((t4_ : w.heap.size ≤ gb171)); replace HB := Aside0.mk (below_step t0_ hb); clear hb hbox hg; have hcz6_0 := bc0 BK171; have hfz6_0 := bf BK171 0) | ((with_reducible refine gate_callee (f := 67) rfl ?_); refine goesL_ (some 8) rfl rfl Try.func67 (by kernel_rfl) rfl #[.slice A0_0 l0_0.length c0_0, .int .i64 a1] rfl t1_ ?_; (with_reducible refine (laws_heldFileS.calls k _ _ l0_0 a1 t172 _ ?side1 ?side2 A3.out).mono ?_); (case side1 => exact cB HR0_0 HB); (case side2 => exact HC0_0.out); rintro e w7 ⟨rfl, hb⟩; refine ⟨_, rfl, ?_⟩; replace BK171 := bkN BK171 hb; replace HB := Aside0.mk (below_step (by repeat (first | (with_reducible first | exact HB.out | apply below_alloc | apply pw_below_drewN | apply below_drew1 | refine below_set ?_ GE171.out) | exact HB.out)) hb); (try clear hb); (try clear hb2); (try clear hk); (try clear hi)))
    go_ret
    exact ⟨by first | rfl | (simp [errW_none, errW_some] <;> rfl) | (simp [*, errW_none, errW_some] <;> rfl), by repeat (first | (with_reducible first | exact HB.out | apply below_alloc | apply pw_below_drewN | apply below_drew1 | refine below_set ?_ GE171.out) | exact HB.out)⟩

/-! ### impl_within: function 60 -/
def impl_within.f (a0 : Int) (a1 : Int) (a2 : Int) : Option (Bool) := if a0 ≥ a1 then (some (decide (a0 ≤ a2))) else (some false)
set_option maxHeartbeats 8000000 in
set_option maxRecDepth 100000 in
theorem impl_within.calls (a0 : Int) (a1 : Int) (a2 : Int) (r : Bool) (w : World) (h : impl_within.f a0 a1 a2 = some r) :
    Calls Try.prog 60 #[.int .i64 a0, .int .i64 a1, .int .i64 a2] w fun e w' => e = .returned (.bool r) ∧ Drawn0 w w' := by
  have H : (if a0 ≥ a1 then (some (decide (a0 ≤ a2))) else (some false)) = some r := h
  clear h
  by_cases c4 : a0 ≥ a1
  · rw [if_pos c4] at H
    have c4b0 : decide (a1 ≤ a0) = true := decide_eq_true c4
    clear c4
    obtain rfl := Option.some.inj H
    go_enter Try.func60, Try.ntmps60
    go_wp2
    go_ret
    exact ⟨by first | rfl | (simp; done) | (simp [*]; done), t81_⟩
  · rw [if_neg c4] at H
    have c4b0 : decide (a1 ≤ a0) = false := decide_eq_false c4
    clear c4
    obtain rfl := Option.some.inj H
    go_enter Try.func60, Try.ntmps60
    go_wp2
    go_ret
    exact ⟨by first | rfl | (simp; done) | (simp [*]; done), t81_⟩

/-! ### impl_DiskOk: function 34 -/
def impl_DiskOk.l0 : Nat → List (S71) → Int → Int → List (S71) → Option (Bool)
  | 0, _, _, _, _ => none
  | k + 1, x6, x7, x8, x174000 => if x8 < x7 then (if 0 ≤ x8 then (if x8 < (x6.length : Int) then ((impl_within.f (((rd_T71 x6 x8).f0).size : Int) 1 12).bind fun t176 => (if t176 = true then (if (((rd_T71 x6 x8).f1).size : Int) > 20000 then (some false) else (if x8 > 0 then (if 0 ≤ (wrap64 (x8 - 1)) then (if (wrap64 (x8 - 1)) < (x174000.length : Int) then (if ((Op.bytesLess (((rd_T71 x174000 (wrap64 (x8 - 1))).f0).toList) (((rd_T71 x6 x8).f0).toList)) = true) then (impl_DiskOk.l0 k x6 x7 (wrap64 (x8 + 1)) x174000) else (some false)) else (none)) else (none)) else (impl_DiskOk.l0 k x6 x7 (wrap64 (x8 + 1)) x174000))) else (some false))) else (none)) else (none)) else (some (decide ((x174000.length : Int) ≤ 30)))
def impl_DiskOk.f (k : Nat) (l0_0 : List (S71)) : Option (Bool) := impl_DiskOk.l0 k l0_0 (l0_0.length : Int) 0 l0_0
theorem impl_DiskOk.mono_l : ∀ k, (∀ y0 y1 y2 y3, LeO (impl_DiskOk.l0 k y0 y1 y2 y3) (impl_DiskOk.l0 (k + 1) y0 y1 y2 y3))
  | 0 => fun _ _ _ _ r h => by simp [impl_DiskOk.l0] at h
  | k + 1 => by
    have ih0 := impl_DiskOk.mono_l k
    · intro y0 y1 y2 y3
      unfold impl_DiskOk.l0
      repeat' first
      | (with_reducible exact ih0 _ _ _ _)
      | (with_reducible exact LeO.refl _)
      | (with_reducible exact LeO.none _)
      | (with_reducible refine LeO.ite ?_ ?_)
      | (with_reducible refine LeO.bind ?_ (fun _ => ?_))
      | exact ih0 _ _ _ _
      | exact LeO.none _
      | refine LeO.ite ?_ ?_
      | refine LeO.bind ?_ (fun _ => ?_)
theorem impl_DiskOk.mono : ∀ a0 k, LeO (impl_DiskOk.f k a0) (impl_DiskOk.f (k + 1) a0) := by
  intro a0 k
  have ih0 := impl_DiskOk.mono_l k
  unfold impl_DiskOk.f
  repeat' first
      | (with_reducible exact ih0 _ _ _ _)
      | (with_reducible exact LeO.refl _)
      | (with_reducible exact LeO.none _)
      | (with_reducible refine LeO.ite ?_ ?_)
      | (with_reducible refine LeO.bind ?_ (fun _ => ?_))
      | exact ih0 _ _ _ _
      | exact LeO.none _
      | refine LeO.ite ?_ ?_
      | refine LeO.bind ?_ (fun _ => ?_)
set_option maxHeartbeats 8000000 in
set_option maxRecDepth 100000 in
theorem impl_DiskOk.calls (k : Nat) (A0_0 : Option Addr) (c0_0 : Nat) (l0_0 : List (S71)) (r : Bool) (w : World) (hr0_0 : Kd.C k71 w A0_0 l0_0.length l0_0) (hc0_0 : l0_0.length ≤ c0_0) (h : impl_DiskOk.f k l0_0 = some r) :
    Calls Try.prog 34 #[.agg #[.slice A0_0 l0_0.length c0_0]] w fun e w' => e = .returned (.bool r) ∧ Below w.heap.size w w' := by
  have hu30 := Try.underlying30
  have hu71 := Try.underlying71
  have HR0_0 := Aside0.mk hr0_0
  have HC0_0 := Aside0.mk hc0_0
  clear hr0_0 hc0_0
  have HB := Aside0.mk (Below.refl w.heap.size w)
  have H : (impl_DiskOk.l0 k l0_0 (l0_0.length : Int) 0 l0_0) = some r := h
  clear h
  have H' := Aside0.mk H
  clear H
  go_enter Try.func34, Try.ntmps34
  go_wp2_with (first | ((with_reducible refine gate_dst (N := 1) rfl ?_); (try (refine gate_guard (by rfl) ?_; dsimp only)); refine boxE (N := 1) (cs := #[.slice A0_0 l0_0.length c0_0]) (t := 30) (h := ?_); intro gb173 hg w2 hbox hb; have BK173 := Aside0.mk (hbox); have GW173 := Aside0.mk ((t4_ : w.heap.size ≤ gb173)); have GE173 := Aside0.mk ((t4_ : w.heap.size ≤ gb173)); replace HB := Aside0.mk (below_step t0_ hb); clear hb hbox hg; have hcz3_0 := bc0 BK173; have hfz3_0 := bf BK173 0))
  repeat (go_quiet (first | ((with_reducible refine gate_dst (N := 1) rfl ?_); (try (refine gate_guard (by rfl) ?_; dsimp only)); refine boxE (N := 1) (cs := #[.slice A0_0 l0_0.length c0_0]) (t := 30) (h := ?_); intro gb173 hg w2 hbox hb; have BK173 := Aside0.mk (hbox); have GW173 := Aside0.mk ((t4_ : w.heap.size ≤ gb173)); have GE173 := Aside0.mk ((t4_ : w.heap.size ≤ gb173)); replace HB := Aside0.mk (below_step t0_ hb); clear hb hbox hg; have hcz3_0 := bc0 BK173; have hfz3_0 := bf BK173 0)); try go_wp2_with (first | ((with_reducible refine gate_dst (N := 1) rfl ?_); (try (refine gate_guard (by rfl) ?_; dsimp only)); refine boxE (N := 1) (cs := #[.slice A0_0 l0_0.length c0_0]) (t := 30) (h := ?_); intro gb173 hg w2 hbox hb; have BK173 := Aside0.mk (hbox); have GW173 := Aside0.mk ((t4_ : w.heap.size ≤ gb173)); have GE173 := Aside0.mk ((t4_ : w.heap.size ≤ gb173)); replace HB := Aside0.mk (below_step t0_ hb); clear hb hbox hg; have hcz3_0 := bc0 BK173; have hfz3_0 := bf BK173 0)))
  go_loopg [8] k (fun kq v8 w' => ∃ (x8_1 : Int), v8 = .int .i64 x8_1 ∧ Aside0 (impl_DiskOk.l0 kq l0_0 (l0_0.length : Int) x8_1 l0_0 = some r) ∧ Aside0 (kq ≤ k) ∧ Aside0 (w'.heap[gb173]? = some (.cells #[(.slice A0_0 l0_0.length c0_0)] 30 (0, 0))) ∧ Aside0 (Below w.heap.size w w'))
  case atStart => exact ⟨(0), t19_, H', ⟨Nat.le_refl _⟩, ⟨by (with_reducible repeat (first | refine blk_drewN ?_ _ | refine blk_drew ?_ | refine blk_alloc ?_ _)); exact BK173.out⟩, ⟨t9_⟩⟩
  case round =>
    clear H'
    try clear p2
    try clear c3
    try clear hcz3_0
    try clear hfz3_0
    obtain ⟨x8_1, rfl, HA, HK1, BK173, HB⟩ := hrel
    cases gk with
    | zero => exact absurd HA.out (by simp [impl_DiskOk.l0])
    | succ k1 =>
      have H := HA.out
      clear HA
      simp only [impl_DiskOk.l0] at H
      by_cases c4 : x8_1 < (l0_0.length : Int)
      · rw [if_pos c4] at H
        have c4b0 : decide (x8_1 < (l0_0.length : Int)) = true := decide_eq_true c4
        clear c4
        by_cases c5 : 0 ≤ x8_1
        · rw [if_pos c5] at H
          have c5b0 : decide (0 ≤ x8_1) = true := decide_eq_true c5
          clear c5
          by_cases c6 : x8_1 < (l0_0.length : Int)
          · rw [if_pos c6] at H
            have c6b0 : decide (x8_1 < (l0_0.length : Int)) = true := decide_eq_true c6
            clear c6
            replace H := Option.bind_eq_some_iff.mp H
            obtain ⟨t176, A70, H⟩ := H
            replace H : (if t176 = true then (if (((rd_T71 l0_0 x8_1).f1).size : Int) > 20000 then (some false) else (if x8_1 > 0 then (if 0 ≤ (wrap64 (x8_1 - 1)) then (if (wrap64 (x8_1 - 1)) < (l0_0.length : Int) then (if ((Op.bytesLess (((rd_T71 l0_0 (wrap64 (x8_1 - 1))).f0).toList) (((rd_T71 l0_0 x8_1).f0).toList)) = true) then (impl_DiskOk.l0 k1 l0_0 (l0_0.length : Int) (wrap64 (x8_1 + 1)) l0_0) else (some false)) else (none)) else (none)) else (impl_DiskOk.l0 k1 l0_0 (l0_0.length : Int) (wrap64 (x8_1 + 1)) l0_0))) else (some false)) = some r := H
            have A7 := Aside0.mk A70
            clear A70
            by_cases c8 : t176 = true
            · subst c8
              have H1 : (if (((rd_T71 l0_0 x8_1).f1).size : Int) > 20000 then (some false) else (if x8_1 > 0 then (if 0 ≤ (wrap64 (x8_1 - 1)) then (if (wrap64 (x8_1 - 1)) < (l0_0.length : Int) then (if ((Op.bytesLess (((rd_T71 l0_0 (wrap64 (x8_1 - 1))).f0).toList) (((rd_T71 l0_0 x8_1).f0).toList)) = true) then (impl_DiskOk.l0 k1 l0_0 (l0_0.length : Int) (wrap64 (x8_1 + 1)) l0_0) else (some false)) else (none)) else (none)) else (impl_DiskOk.l0 k1 l0_0 (l0_0.length : Int) (wrap64 (x8_1 + 1)) l0_0))) = some r := by rw [if_pos rfl] at H; exact H
              clear H
              have H := H1
              clear H1
              by_cases c9 : (((rd_T71 l0_0 x8_1).f1).size : Int) > 20000
              · rw [if_pos c9] at H
                have c9b0 : decide (20000 < (((rd_T71 l0_0 x8_1).f1).size : Int)) = true := decide_eq_true c9
                have c9b1 : decide (20000 < ((rd_T71 l0_0 x8_1).f1).size) = true := decide_eq_true (by omega)
                clear c9
                obtain rfl := Option.some.inj H
                have p174 : 0 ≤ (x8_1 : Int) := of_decide_eq_true t7_
                have q174 : x8_1 < (l0_0.length : Int) := of_decide_eq_true t7_
                obtain ⟨ad174, e174, hx174_0, hx174_1⟩ := at_T71 HR0_0.out x8_1 p174 q174
                cases e174
                replace hx174_0 := (HB.out.cell (World.block_lt_of_cell? w _ hx174_0)).trans hx174_0
                replace hx174_1 := (HB.out.cell (World.block_lt_of_cell? w _ hx174_1)).trans hx174_1
                replace p174 := eq_true p174
                replace q174 := eq_true q174
                go_wp2_with (first | ((with_reducible refine gate_dst (N := 4) rfl ?_); (try (refine gate_guard (by rfl) ?_; dsimp only)); refine boxE (N := 4) (cs := #[.string (⟨#[]⟩ : ByteArray), .string (⟨#[]⟩ : ByteArray)]) (t := 71) (h := ?_); intro gb175 hg w10 hbox hb; have BK175 := Aside0.mk (hbox); have GW175 := Aside0.mk ((t15_ : w.heap.size ≤ gb175)); have GE175 := Aside0.mk ((t15_ : w.heap.size ≤ gb175)); replace HB := Aside0.mk (below_step t9_ hb); have NB173_175 := nbL BK173 hg; have NB175_173 := nbG BK173 hg; replace BK173 := bkN BK173 hb; clear hb hbox hg; have hnb11 := NB175_173.out; have hnc11 := NB173_175.out; have hcz12_0 := bc0 BK175; have hcz12_1 := bc1 BK175; have hfz12_0 := bf BK175 0; have hfz12_1 := bf BK175 1) | (go_at_call 60; (with_reducible refine (impl_within.calls (((rd_T71 l0_0 x8_1).f0).size : Int) 1 12 true _ A7.out).mono ?_); rintro e w' ⟨rfl, ⟨nd, rfl⟩⟩; (try first | exact ⟨rfl, _, World.drewN_drewN _ _ _⟩ | exact ⟨rfl, _, Eq.trans (World.drewN_drewN _ _ _) (congrArg (World.drewN _) (Nat.add_assoc _ _ _))⟩)))
                repeat (go_quiet (first | ((with_reducible refine gate_dst (N := 4) rfl ?_); (try (refine gate_guard (by rfl) ?_; dsimp only)); refine boxE (N := 4) (cs := #[.string (⟨#[]⟩ : ByteArray), .string (⟨#[]⟩ : ByteArray)]) (t := 71) (h := ?_); intro gb175 hg w10 hbox hb; have BK175 := Aside0.mk (hbox); have GW175 := Aside0.mk ((t15_ : w.heap.size ≤ gb175)); have GE175 := Aside0.mk ((t15_ : w.heap.size ≤ gb175)); replace HB := Aside0.mk (below_step t9_ hb); have NB173_175 := nbL BK173 hg; have NB175_173 := nbG BK173 hg; replace BK173 := bkN BK173 hb; clear hb hbox hg; have hnb11 := NB175_173.out; have hnc11 := NB173_175.out; have hcz12_0 := bc0 BK175; have hcz12_1 := bc1 BK175; have hfz12_0 := bf BK175 0; have hfz12_1 := bf BK175 1) | (go_at_call 60; (with_reducible refine (impl_within.calls (((rd_T71 l0_0 x8_1).f0).size : Int) 1 12 true _ A7.out).mono ?_); rintro e w' ⟨rfl, ⟨nd, rfl⟩⟩; (try first | exact ⟨rfl, _, World.drewN_drewN _ _ _⟩ | exact ⟨rfl, _, Eq.trans (World.drewN_drewN _ _ _) (congrArg (World.drewN _) (Nat.add_assoc _ _ _))⟩))); try go_wp2_with (first | ((with_reducible refine gate_dst (N := 4) rfl ?_); (try (refine gate_guard (by rfl) ?_; dsimp only)); refine boxE (N := 4) (cs := #[.string (⟨#[]⟩ : ByteArray), .string (⟨#[]⟩ : ByteArray)]) (t := 71) (h := ?_); intro gb175 hg w10 hbox hb; have BK175 := Aside0.mk (hbox); have GW175 := Aside0.mk ((t15_ : w.heap.size ≤ gb175)); have GE175 := Aside0.mk ((t15_ : w.heap.size ≤ gb175)); replace HB := Aside0.mk (below_step t9_ hb); have NB173_175 := nbL BK173 hg; have NB175_173 := nbG BK173 hg; replace BK173 := bkN BK173 hb; clear hb hbox hg; have hnb11 := NB175_173.out; have hnc11 := NB173_175.out; have hcz12_0 := bc0 BK175; have hcz12_1 := bc1 BK175; have hfz12_0 := bf BK175 0; have hfz12_1 := bf BK175 1) | (go_at_call 60; (with_reducible refine (impl_within.calls (((rd_T71 l0_0 x8_1).f0).size : Int) 1 12 true _ A7.out).mono ?_); rintro e w' ⟨rfl, ⟨nd, rfl⟩⟩; (try first | exact ⟨rfl, _, World.drewN_drewN _ _ _⟩ | exact ⟨rfl, _, Eq.trans (World.drewN_drewN _ _ _) (congrArg (World.drewN _) (Nat.add_assoc _ _ _))⟩))))
                go_ret
                exact ⟨by first | rfl | (simp [errW_none, errW_some] <;> rfl) | (simp [*, errW_none, errW_some] <;> rfl), t53_⟩
              · rw [if_neg c9] at H
                have c9b0 : decide (20000 < (((rd_T71 l0_0 x8_1).f1).size : Int)) = false := decide_eq_false c9
                have c9b1 : decide (20000 < ((rd_T71 l0_0 x8_1).f1).size) = false := decide_eq_false (by omega)
                clear c9
                by_cases c13 : x8_1 > 0
                · rw [if_pos c13] at H
                  have c13b0 : decide (0 < x8_1) = true := decide_eq_true c13
                  clear c13
                  obtain ⟨ji14, hji14⟩ : ∃ j_ : Int, (wrap64 (x8_1 - 1)) = j_ := ⟨_, rfl⟩
                  replace H : (if 0 ≤ (ji14) then (if (ji14) < (l0_0.length : Int) then (if ((Op.bytesLess (((rd_T71 l0_0 (ji14)).f0).toList) (((rd_T71 l0_0 x8_1).f0).toList)) = true) then (impl_DiskOk.l0 k1 l0_0 (l0_0.length : Int) (wrap64 (x8_1 + 1)) l0_0) else (some false)) else (none)) else (none)) = some r := by first | (rw [hji14] at H; exact H) | (simp only [hji14] at H ⊢; exact H)
                  (try rw [hji14] at A7)
                  have hji14w : (IntKind.i64.wrap (x8_1 - 1)) = ji14 := (i64_w _).trans hji14
                  by_cases c15 : 0 ≤ (ji14)
                  · rw [if_pos c15] at H
                    have c15b0 : decide (0 ≤ (ji14)) = true := decide_eq_true c15
                    clear c15
                    by_cases c16 : (ji14) < (l0_0.length : Int)
                    · rw [if_pos c16] at H
                      have c16b0 : decide ((ji14) < (l0_0.length : Int)) = true := decide_eq_true c16
                      clear c16
                      by_cases c17 : ((Op.bytesLess (((rd_T71 l0_0 (ji14)).f0).toList) (((rd_T71 l0_0 x8_1).f0).toList)) = true)
                      · rw [if_pos c17] at H
                        have c17b0 : (Op.bytesLess (((rd_T71 l0_0 (ji14)).f0).toList) (((rd_T71 l0_0 x8_1).f0).toList)) = true := c17
                        obtain ⟨c17b7, c17b6⟩ := bl_gtr_t c17b0
                        clear c17
                        have H' := Aside0.mk H
                        clear H
                        have p174 : 0 ≤ (x8_1 : Int) := of_decide_eq_true t7_
                        have q174 : x8_1 < (l0_0.length : Int) := of_decide_eq_true t7_
                        obtain ⟨ad174, e174, hx174_0, hx174_1⟩ := at_T71 HR0_0.out x8_1 p174 q174
                        cases e174
                        replace hx174_0 := (HB.out.cell (World.block_lt_of_cell? w _ hx174_0)).trans hx174_0
                        replace hx174_1 := (HB.out.cell (World.block_lt_of_cell? w _ hx174_1)).trans hx174_1
                        replace p174 := eq_true p174
                        replace q174 := eq_true q174
                        go_wp2_with (first | ((with_reducible refine gate_dst (N := 4) rfl ?_); (try (refine gate_guard (by rfl) ?_; dsimp only)); refine boxE (N := 4) (cs := #[.string (⟨#[]⟩ : ByteArray), .string (⟨#[]⟩ : ByteArray)]) (t := 71) (h := ?_); intro gb175 hg w18 hbox hb; have BK175 := Aside0.mk (hbox); have GW175 := Aside0.mk ((t15_ : w.heap.size ≤ gb175)); have GE175 := Aside0.mk ((t15_ : w.heap.size ≤ gb175)); replace HB := Aside0.mk (below_step t9_ hb); have NB173_175 := nbL BK173 hg; have NB175_173 := nbG BK173 hg; replace BK173 := bkN BK173 hb; clear hb hbox hg; have hnb19 := NB175_173.out; have hnc19 := NB173_175.out; have hcz20_0 := bc0 BK175; have hcz20_1 := bc1 BK175; have hfz20_0 := bf BK175 0; have hfz20_1 := bf BK175 1) | (go_at_call 60; (with_reducible refine (impl_within.calls (((rd_T71 l0_0 x8_1).f0).size : Int) 1 12 true _ A7.out).mono ?_); rintro e w' ⟨rfl, ⟨nd, rfl⟩⟩; (try first | exact ⟨rfl, _, World.drewN_drewN _ _ _⟩ | exact ⟨rfl, _, Eq.trans (World.drewN_drewN _ _ _) (congrArg (World.drewN _) (Nat.add_assoc _ _ _))⟩); have hcz21_0 := bc0 BK173; have hfz21_0 := bf BK173 0; have p177 : 0 ≤ ((ji14) : Int) := of_decide_eq_true t7_; have q177 : (ji14) < (l0_0.length : Int) := of_decide_eq_true t7_; obtain ⟨ad177, e177, hx177_0, hx177_1⟩ := at_T71 HR0_0.out (ji14) p177 q177; obtain rfl : ad174 = ad177 := (by injection e177); have hn177_0 : ad174.block ≠ gb175 := Nat.ne_of_lt (Nat.lt_of_lt_of_le (by have := World.block_lt_of_cell? _ _ hx177_0; first | rwa [add_block] at this | exact this) GW175.out); have hn177_1 : ad174.block ≠ gb175 := Nat.ne_of_lt (Nat.lt_of_lt_of_le (by have := World.block_lt_of_cell? _ _ hx177_0; first | rwa [add_block] at this | exact this) GW175.out); replace hx177_0 := (HB.out.cell (World.block_lt_of_cell? w _ hx177_0)).trans hx177_0; replace hx177_1 := (HB.out.cell (World.block_lt_of_cell? w _ hx177_1)).trans hx177_1; replace hx177_0 := (cell_far (p := ⟨gb175, 0, none⟩) (by first | (rw [add_block]; exact hn177_0) | (show (Addr.add _ _).block ≠ _; rw [add_block]; exact hn177_0) | exact hn177_0) (.string ((rd_T71 l0_0 x8_1).f0))).trans hx177_0; replace hx177_1 := (cell_far (p := ⟨gb175, 0, none⟩) (by first | (rw [add_block]; exact hn177_0) | (show (Addr.add _ _).block ≠ _; rw [add_block]; exact hn177_0) | exact hn177_0) (.string ((rd_T71 l0_0 x8_1).f0))).trans hx177_1; replace hx177_0 := (cell_far (p := ⟨gb175, 1, none⟩) (by first | (rw [add_block]; exact hn177_1) | (show (Addr.add _ _).block ≠ _; rw [add_block]; exact hn177_1) | exact hn177_1) (.string ((rd_T71 l0_0 x8_1).f1))).trans hx177_0; replace hx177_1 := (cell_far (p := ⟨gb175, 1, none⟩) (by first | (rw [add_block]; exact hn177_1) | (show (Addr.add _ _).block ≠ _; rw [add_block]; exact hn177_1) | exact hn177_1) (.string ((rd_T71 l0_0 x8_1).f1))).trans hx177_1; (try have hy177_0 := fun (n_ : Nat) => (show ((((w18.drewN n_).setCell ⟨gb175, 0, none⟩ (.string ((rd_T71 l0_0 x8_1).f0))).setCell ⟨gb175, 1, none⟩ (.string ((rd_T71 l0_0 x8_1).f1)))).cell? _ = some _ from hx177_0)); (try have hy177_1 := fun (n_ : Nat) => (show ((((w18.drewN n_).setCell ⟨gb175, 0, none⟩ (.string ((rd_T71 l0_0 x8_1).f0))).setCell ⟨gb175, 1, none⟩ (.string ((rd_T71 l0_0 x8_1).f1)))).cell? _ = some _ from hx177_1)); clear hn177_0; clear hn177_1; replace p177 := eq_true p177; replace q177 := eq_true q177))
                        repeat (go_quiet (first | ((with_reducible refine gate_dst (N := 4) rfl ?_); (try (refine gate_guard (by rfl) ?_; dsimp only)); refine boxE (N := 4) (cs := #[.string (⟨#[]⟩ : ByteArray), .string (⟨#[]⟩ : ByteArray)]) (t := 71) (h := ?_); intro gb175 hg w18 hbox hb; have BK175 := Aside0.mk (hbox); have GW175 := Aside0.mk ((t15_ : w.heap.size ≤ gb175)); have GE175 := Aside0.mk ((t15_ : w.heap.size ≤ gb175)); replace HB := Aside0.mk (below_step t9_ hb); have NB173_175 := nbL BK173 hg; have NB175_173 := nbG BK173 hg; replace BK173 := bkN BK173 hb; clear hb hbox hg; have hnb19 := NB175_173.out; have hnc19 := NB173_175.out; have hcz20_0 := bc0 BK175; have hcz20_1 := bc1 BK175; have hfz20_0 := bf BK175 0; have hfz20_1 := bf BK175 1) | (go_at_call 60; (with_reducible refine (impl_within.calls (((rd_T71 l0_0 x8_1).f0).size : Int) 1 12 true _ A7.out).mono ?_); rintro e w' ⟨rfl, ⟨nd, rfl⟩⟩; (try first | exact ⟨rfl, _, World.drewN_drewN _ _ _⟩ | exact ⟨rfl, _, Eq.trans (World.drewN_drewN _ _ _) (congrArg (World.drewN _) (Nat.add_assoc _ _ _))⟩); have hcz21_0 := bc0 BK173; have hfz21_0 := bf BK173 0; have p177 : 0 ≤ ((ji14) : Int) := of_decide_eq_true t7_; have q177 : (ji14) < (l0_0.length : Int) := of_decide_eq_true t7_; obtain ⟨ad177, e177, hx177_0, hx177_1⟩ := at_T71 HR0_0.out (ji14) p177 q177; obtain rfl : ad174 = ad177 := (by injection e177); have hn177_0 : ad174.block ≠ gb175 := Nat.ne_of_lt (Nat.lt_of_lt_of_le (by have := World.block_lt_of_cell? _ _ hx177_0; first | rwa [add_block] at this | exact this) GW175.out); have hn177_1 : ad174.block ≠ gb175 := Nat.ne_of_lt (Nat.lt_of_lt_of_le (by have := World.block_lt_of_cell? _ _ hx177_0; first | rwa [add_block] at this | exact this) GW175.out); replace hx177_0 := (HB.out.cell (World.block_lt_of_cell? w _ hx177_0)).trans hx177_0; replace hx177_1 := (HB.out.cell (World.block_lt_of_cell? w _ hx177_1)).trans hx177_1; replace hx177_0 := (cell_far (p := ⟨gb175, 0, none⟩) (by first | (rw [add_block]; exact hn177_0) | (show (Addr.add _ _).block ≠ _; rw [add_block]; exact hn177_0) | exact hn177_0) (.string ((rd_T71 l0_0 x8_1).f0))).trans hx177_0; replace hx177_1 := (cell_far (p := ⟨gb175, 0, none⟩) (by first | (rw [add_block]; exact hn177_0) | (show (Addr.add _ _).block ≠ _; rw [add_block]; exact hn177_0) | exact hn177_0) (.string ((rd_T71 l0_0 x8_1).f0))).trans hx177_1; replace hx177_0 := (cell_far (p := ⟨gb175, 1, none⟩) (by first | (rw [add_block]; exact hn177_1) | (show (Addr.add _ _).block ≠ _; rw [add_block]; exact hn177_1) | exact hn177_1) (.string ((rd_T71 l0_0 x8_1).f1))).trans hx177_0; replace hx177_1 := (cell_far (p := ⟨gb175, 1, none⟩) (by first | (rw [add_block]; exact hn177_1) | (show (Addr.add _ _).block ≠ _; rw [add_block]; exact hn177_1) | exact hn177_1) (.string ((rd_T71 l0_0 x8_1).f1))).trans hx177_1; (try have hy177_0 := fun (n_ : Nat) => (show ((((w18.drewN n_).setCell ⟨gb175, 0, none⟩ (.string ((rd_T71 l0_0 x8_1).f0))).setCell ⟨gb175, 1, none⟩ (.string ((rd_T71 l0_0 x8_1).f1)))).cell? _ = some _ from hx177_0)); (try have hy177_1 := fun (n_ : Nat) => (show ((((w18.drewN n_).setCell ⟨gb175, 0, none⟩ (.string ((rd_T71 l0_0 x8_1).f0))).setCell ⟨gb175, 1, none⟩ (.string ((rd_T71 l0_0 x8_1).f1)))).cell? _ = some _ from hx177_1)); clear hn177_0; clear hn177_1; replace p177 := eq_true p177; replace q177 := eq_true q177)); try go_wp2_with (first | ((with_reducible refine gate_dst (N := 4) rfl ?_); (try (refine gate_guard (by rfl) ?_; dsimp only)); refine boxE (N := 4) (cs := #[.string (⟨#[]⟩ : ByteArray), .string (⟨#[]⟩ : ByteArray)]) (t := 71) (h := ?_); intro gb175 hg w18 hbox hb; have BK175 := Aside0.mk (hbox); have GW175 := Aside0.mk ((t15_ : w.heap.size ≤ gb175)); have GE175 := Aside0.mk ((t15_ : w.heap.size ≤ gb175)); replace HB := Aside0.mk (below_step t9_ hb); have NB173_175 := nbL BK173 hg; have NB175_173 := nbG BK173 hg; replace BK173 := bkN BK173 hb; clear hb hbox hg; have hnb19 := NB175_173.out; have hnc19 := NB173_175.out; have hcz20_0 := bc0 BK175; have hcz20_1 := bc1 BK175; have hfz20_0 := bf BK175 0; have hfz20_1 := bf BK175 1) | (go_at_call 60; (with_reducible refine (impl_within.calls (((rd_T71 l0_0 x8_1).f0).size : Int) 1 12 true _ A7.out).mono ?_); rintro e w' ⟨rfl, ⟨nd, rfl⟩⟩; (try first | exact ⟨rfl, _, World.drewN_drewN _ _ _⟩ | exact ⟨rfl, _, Eq.trans (World.drewN_drewN _ _ _) (congrArg (World.drewN _) (Nat.add_assoc _ _ _))⟩); have hcz21_0 := bc0 BK173; have hfz21_0 := bf BK173 0; have p177 : 0 ≤ ((ji14) : Int) := of_decide_eq_true t7_; have q177 : (ji14) < (l0_0.length : Int) := of_decide_eq_true t7_; obtain ⟨ad177, e177, hx177_0, hx177_1⟩ := at_T71 HR0_0.out (ji14) p177 q177; obtain rfl : ad174 = ad177 := (by injection e177); have hn177_0 : ad174.block ≠ gb175 := Nat.ne_of_lt (Nat.lt_of_lt_of_le (by have := World.block_lt_of_cell? _ _ hx177_0; first | rwa [add_block] at this | exact this) GW175.out); have hn177_1 : ad174.block ≠ gb175 := Nat.ne_of_lt (Nat.lt_of_lt_of_le (by have := World.block_lt_of_cell? _ _ hx177_0; first | rwa [add_block] at this | exact this) GW175.out); replace hx177_0 := (HB.out.cell (World.block_lt_of_cell? w _ hx177_0)).trans hx177_0; replace hx177_1 := (HB.out.cell (World.block_lt_of_cell? w _ hx177_1)).trans hx177_1; replace hx177_0 := (cell_far (p := ⟨gb175, 0, none⟩) (by first | (rw [add_block]; exact hn177_0) | (show (Addr.add _ _).block ≠ _; rw [add_block]; exact hn177_0) | exact hn177_0) (.string ((rd_T71 l0_0 x8_1).f0))).trans hx177_0; replace hx177_1 := (cell_far (p := ⟨gb175, 0, none⟩) (by first | (rw [add_block]; exact hn177_0) | (show (Addr.add _ _).block ≠ _; rw [add_block]; exact hn177_0) | exact hn177_0) (.string ((rd_T71 l0_0 x8_1).f0))).trans hx177_1; replace hx177_0 := (cell_far (p := ⟨gb175, 1, none⟩) (by first | (rw [add_block]; exact hn177_1) | (show (Addr.add _ _).block ≠ _; rw [add_block]; exact hn177_1) | exact hn177_1) (.string ((rd_T71 l0_0 x8_1).f1))).trans hx177_0; replace hx177_1 := (cell_far (p := ⟨gb175, 1, none⟩) (by first | (rw [add_block]; exact hn177_1) | (show (Addr.add _ _).block ≠ _; rw [add_block]; exact hn177_1) | exact hn177_1) (.string ((rd_T71 l0_0 x8_1).f1))).trans hx177_1; (try have hy177_0 := fun (n_ : Nat) => (show ((((w18.drewN n_).setCell ⟨gb175, 0, none⟩ (.string ((rd_T71 l0_0 x8_1).f0))).setCell ⟨gb175, 1, none⟩ (.string ((rd_T71 l0_0 x8_1).f1)))).cell? _ = some _ from hx177_0)); (try have hy177_1 := fun (n_ : Nat) => (show ((((w18.drewN n_).setCell ⟨gb175, 0, none⟩ (.string ((rd_T71 l0_0 x8_1).f0))).setCell ⟨gb175, 1, none⟩ (.string ((rd_T71 l0_0 x8_1).f1)))).cell? _ = some _ from hx177_1)); clear hn177_0; clear hn177_1; replace p177 := eq_true p177; replace q177 := eq_true q177)))
                        go_roundg k1
                        case measure => have := HK1.out; omega
                        case rel => exact ⟨(wrap64 (x8_1 + 1)), t19_, H', ⟨by have := HK1.out; omega⟩, ⟨by (with_reducible repeat (first | refine blk_drewN ?_ _ | refine blk_drew ?_ | refine blk_alloc ?_ _)); refine blk_far ?_ NB173_175.out _; (with_reducible repeat (first | refine blk_drewN ?_ _ | refine blk_drew ?_ | refine blk_alloc ?_ _)); refine blk_far ?_ NB173_175.out _; (with_reducible repeat (first | refine blk_drewN ?_ _ | refine blk_drew ?_ | refine blk_alloc ?_ _)); exact BK173.out⟩, ⟨t53_⟩⟩
                      · rw [if_neg c17] at H
                        have c17b0 : (Op.bytesLess (((rd_T71 l0_0 (ji14)).f0).toList) (((rd_T71 l0_0 x8_1).f0).toList)) = false := by simpa using c17
                        obtain ⟨c17b7, c17b6⟩ := bl_gtr_f c17b0
                        clear c17
                        obtain rfl := Option.some.inj H
                        have p174 : 0 ≤ (x8_1 : Int) := of_decide_eq_true t7_
                        have q174 : x8_1 < (l0_0.length : Int) := of_decide_eq_true t7_
                        obtain ⟨ad174, e174, hx174_0, hx174_1⟩ := at_T71 HR0_0.out x8_1 p174 q174
                        cases e174
                        replace hx174_0 := (HB.out.cell (World.block_lt_of_cell? w _ hx174_0)).trans hx174_0
                        replace hx174_1 := (HB.out.cell (World.block_lt_of_cell? w _ hx174_1)).trans hx174_1
                        replace p174 := eq_true p174
                        replace q174 := eq_true q174
                        go_wp2_with (first | ((with_reducible refine gate_dst (N := 4) rfl ?_); (try (refine gate_guard (by rfl) ?_; dsimp only)); refine boxE (N := 4) (cs := #[.string (⟨#[]⟩ : ByteArray), .string (⟨#[]⟩ : ByteArray)]) (t := 71) (h := ?_); intro gb175 hg w22 hbox hb; have BK175 := Aside0.mk (hbox); have GW175 := Aside0.mk ((t15_ : w.heap.size ≤ gb175)); have GE175 := Aside0.mk ((t15_ : w.heap.size ≤ gb175)); replace HB := Aside0.mk (below_step t9_ hb); have NB173_175 := nbL BK173 hg; have NB175_173 := nbG BK173 hg; replace BK173 := bkN BK173 hb; clear hb hbox hg; have hnb23 := NB175_173.out; have hnc23 := NB173_175.out; have hcz24_0 := bc0 BK175; have hcz24_1 := bc1 BK175; have hfz24_0 := bf BK175 0; have hfz24_1 := bf BK175 1) | (go_at_call 60; (with_reducible refine (impl_within.calls (((rd_T71 l0_0 x8_1).f0).size : Int) 1 12 true _ A7.out).mono ?_); rintro e w' ⟨rfl, ⟨nd, rfl⟩⟩; (try first | exact ⟨rfl, _, World.drewN_drewN _ _ _⟩ | exact ⟨rfl, _, Eq.trans (World.drewN_drewN _ _ _) (congrArg (World.drewN _) (Nat.add_assoc _ _ _))⟩); have hcz25_0 := bc0 BK173; have hfz25_0 := bf BK173 0; have p177 : 0 ≤ ((ji14) : Int) := of_decide_eq_true t7_; have q177 : (ji14) < (l0_0.length : Int) := of_decide_eq_true t7_; obtain ⟨ad177, e177, hx177_0, hx177_1⟩ := at_T71 HR0_0.out (ji14) p177 q177; obtain rfl : ad174 = ad177 := (by injection e177); have hn177_0 : ad174.block ≠ gb175 := Nat.ne_of_lt (Nat.lt_of_lt_of_le (by have := World.block_lt_of_cell? _ _ hx177_0; first | rwa [add_block] at this | exact this) GW175.out); have hn177_1 : ad174.block ≠ gb175 := Nat.ne_of_lt (Nat.lt_of_lt_of_le (by have := World.block_lt_of_cell? _ _ hx177_0; first | rwa [add_block] at this | exact this) GW175.out); replace hx177_0 := (HB.out.cell (World.block_lt_of_cell? w _ hx177_0)).trans hx177_0; replace hx177_1 := (HB.out.cell (World.block_lt_of_cell? w _ hx177_1)).trans hx177_1; replace hx177_0 := (cell_far (p := ⟨gb175, 0, none⟩) (by first | (rw [add_block]; exact hn177_0) | (show (Addr.add _ _).block ≠ _; rw [add_block]; exact hn177_0) | exact hn177_0) (.string ((rd_T71 l0_0 x8_1).f0))).trans hx177_0; replace hx177_1 := (cell_far (p := ⟨gb175, 0, none⟩) (by first | (rw [add_block]; exact hn177_0) | (show (Addr.add _ _).block ≠ _; rw [add_block]; exact hn177_0) | exact hn177_0) (.string ((rd_T71 l0_0 x8_1).f0))).trans hx177_1; replace hx177_0 := (cell_far (p := ⟨gb175, 1, none⟩) (by first | (rw [add_block]; exact hn177_1) | (show (Addr.add _ _).block ≠ _; rw [add_block]; exact hn177_1) | exact hn177_1) (.string ((rd_T71 l0_0 x8_1).f1))).trans hx177_0; replace hx177_1 := (cell_far (p := ⟨gb175, 1, none⟩) (by first | (rw [add_block]; exact hn177_1) | (show (Addr.add _ _).block ≠ _; rw [add_block]; exact hn177_1) | exact hn177_1) (.string ((rd_T71 l0_0 x8_1).f1))).trans hx177_1; (try have hy177_0 := fun (n_ : Nat) => (show ((((w22.drewN n_).setCell ⟨gb175, 0, none⟩ (.string ((rd_T71 l0_0 x8_1).f0))).setCell ⟨gb175, 1, none⟩ (.string ((rd_T71 l0_0 x8_1).f1)))).cell? _ = some _ from hx177_0)); (try have hy177_1 := fun (n_ : Nat) => (show ((((w22.drewN n_).setCell ⟨gb175, 0, none⟩ (.string ((rd_T71 l0_0 x8_1).f0))).setCell ⟨gb175, 1, none⟩ (.string ((rd_T71 l0_0 x8_1).f1)))).cell? _ = some _ from hx177_1)); clear hn177_0; clear hn177_1; replace p177 := eq_true p177; replace q177 := eq_true q177))
                        repeat (go_quiet (first | ((with_reducible refine gate_dst (N := 4) rfl ?_); (try (refine gate_guard (by rfl) ?_; dsimp only)); refine boxE (N := 4) (cs := #[.string (⟨#[]⟩ : ByteArray), .string (⟨#[]⟩ : ByteArray)]) (t := 71) (h := ?_); intro gb175 hg w22 hbox hb; have BK175 := Aside0.mk (hbox); have GW175 := Aside0.mk ((t15_ : w.heap.size ≤ gb175)); have GE175 := Aside0.mk ((t15_ : w.heap.size ≤ gb175)); replace HB := Aside0.mk (below_step t9_ hb); have NB173_175 := nbL BK173 hg; have NB175_173 := nbG BK173 hg; replace BK173 := bkN BK173 hb; clear hb hbox hg; have hnb23 := NB175_173.out; have hnc23 := NB173_175.out; have hcz24_0 := bc0 BK175; have hcz24_1 := bc1 BK175; have hfz24_0 := bf BK175 0; have hfz24_1 := bf BK175 1) | (go_at_call 60; (with_reducible refine (impl_within.calls (((rd_T71 l0_0 x8_1).f0).size : Int) 1 12 true _ A7.out).mono ?_); rintro e w' ⟨rfl, ⟨nd, rfl⟩⟩; (try first | exact ⟨rfl, _, World.drewN_drewN _ _ _⟩ | exact ⟨rfl, _, Eq.trans (World.drewN_drewN _ _ _) (congrArg (World.drewN _) (Nat.add_assoc _ _ _))⟩); have hcz25_0 := bc0 BK173; have hfz25_0 := bf BK173 0; have p177 : 0 ≤ ((ji14) : Int) := of_decide_eq_true t7_; have q177 : (ji14) < (l0_0.length : Int) := of_decide_eq_true t7_; obtain ⟨ad177, e177, hx177_0, hx177_1⟩ := at_T71 HR0_0.out (ji14) p177 q177; obtain rfl : ad174 = ad177 := (by injection e177); have hn177_0 : ad174.block ≠ gb175 := Nat.ne_of_lt (Nat.lt_of_lt_of_le (by have := World.block_lt_of_cell? _ _ hx177_0; first | rwa [add_block] at this | exact this) GW175.out); have hn177_1 : ad174.block ≠ gb175 := Nat.ne_of_lt (Nat.lt_of_lt_of_le (by have := World.block_lt_of_cell? _ _ hx177_0; first | rwa [add_block] at this | exact this) GW175.out); replace hx177_0 := (HB.out.cell (World.block_lt_of_cell? w _ hx177_0)).trans hx177_0; replace hx177_1 := (HB.out.cell (World.block_lt_of_cell? w _ hx177_1)).trans hx177_1; replace hx177_0 := (cell_far (p := ⟨gb175, 0, none⟩) (by first | (rw [add_block]; exact hn177_0) | (show (Addr.add _ _).block ≠ _; rw [add_block]; exact hn177_0) | exact hn177_0) (.string ((rd_T71 l0_0 x8_1).f0))).trans hx177_0; replace hx177_1 := (cell_far (p := ⟨gb175, 0, none⟩) (by first | (rw [add_block]; exact hn177_0) | (show (Addr.add _ _).block ≠ _; rw [add_block]; exact hn177_0) | exact hn177_0) (.string ((rd_T71 l0_0 x8_1).f0))).trans hx177_1; replace hx177_0 := (cell_far (p := ⟨gb175, 1, none⟩) (by first | (rw [add_block]; exact hn177_1) | (show (Addr.add _ _).block ≠ _; rw [add_block]; exact hn177_1) | exact hn177_1) (.string ((rd_T71 l0_0 x8_1).f1))).trans hx177_0; replace hx177_1 := (cell_far (p := ⟨gb175, 1, none⟩) (by first | (rw [add_block]; exact hn177_1) | (show (Addr.add _ _).block ≠ _; rw [add_block]; exact hn177_1) | exact hn177_1) (.string ((rd_T71 l0_0 x8_1).f1))).trans hx177_1; (try have hy177_0 := fun (n_ : Nat) => (show ((((w22.drewN n_).setCell ⟨gb175, 0, none⟩ (.string ((rd_T71 l0_0 x8_1).f0))).setCell ⟨gb175, 1, none⟩ (.string ((rd_T71 l0_0 x8_1).f1)))).cell? _ = some _ from hx177_0)); (try have hy177_1 := fun (n_ : Nat) => (show ((((w22.drewN n_).setCell ⟨gb175, 0, none⟩ (.string ((rd_T71 l0_0 x8_1).f0))).setCell ⟨gb175, 1, none⟩ (.string ((rd_T71 l0_0 x8_1).f1)))).cell? _ = some _ from hx177_1)); clear hn177_0; clear hn177_1; replace p177 := eq_true p177; replace q177 := eq_true q177)); try go_wp2_with (first | ((with_reducible refine gate_dst (N := 4) rfl ?_); (try (refine gate_guard (by rfl) ?_; dsimp only)); refine boxE (N := 4) (cs := #[.string (⟨#[]⟩ : ByteArray), .string (⟨#[]⟩ : ByteArray)]) (t := 71) (h := ?_); intro gb175 hg w22 hbox hb; have BK175 := Aside0.mk (hbox); have GW175 := Aside0.mk ((t15_ : w.heap.size ≤ gb175)); have GE175 := Aside0.mk ((t15_ : w.heap.size ≤ gb175)); replace HB := Aside0.mk (below_step t9_ hb); have NB173_175 := nbL BK173 hg; have NB175_173 := nbG BK173 hg; replace BK173 := bkN BK173 hb; clear hb hbox hg; have hnb23 := NB175_173.out; have hnc23 := NB173_175.out; have hcz24_0 := bc0 BK175; have hcz24_1 := bc1 BK175; have hfz24_0 := bf BK175 0; have hfz24_1 := bf BK175 1) | (go_at_call 60; (with_reducible refine (impl_within.calls (((rd_T71 l0_0 x8_1).f0).size : Int) 1 12 true _ A7.out).mono ?_); rintro e w' ⟨rfl, ⟨nd, rfl⟩⟩; (try first | exact ⟨rfl, _, World.drewN_drewN _ _ _⟩ | exact ⟨rfl, _, Eq.trans (World.drewN_drewN _ _ _) (congrArg (World.drewN _) (Nat.add_assoc _ _ _))⟩); have hcz25_0 := bc0 BK173; have hfz25_0 := bf BK173 0; have p177 : 0 ≤ ((ji14) : Int) := of_decide_eq_true t7_; have q177 : (ji14) < (l0_0.length : Int) := of_decide_eq_true t7_; obtain ⟨ad177, e177, hx177_0, hx177_1⟩ := at_T71 HR0_0.out (ji14) p177 q177; obtain rfl : ad174 = ad177 := (by injection e177); have hn177_0 : ad174.block ≠ gb175 := Nat.ne_of_lt (Nat.lt_of_lt_of_le (by have := World.block_lt_of_cell? _ _ hx177_0; first | rwa [add_block] at this | exact this) GW175.out); have hn177_1 : ad174.block ≠ gb175 := Nat.ne_of_lt (Nat.lt_of_lt_of_le (by have := World.block_lt_of_cell? _ _ hx177_0; first | rwa [add_block] at this | exact this) GW175.out); replace hx177_0 := (HB.out.cell (World.block_lt_of_cell? w _ hx177_0)).trans hx177_0; replace hx177_1 := (HB.out.cell (World.block_lt_of_cell? w _ hx177_1)).trans hx177_1; replace hx177_0 := (cell_far (p := ⟨gb175, 0, none⟩) (by first | (rw [add_block]; exact hn177_0) | (show (Addr.add _ _).block ≠ _; rw [add_block]; exact hn177_0) | exact hn177_0) (.string ((rd_T71 l0_0 x8_1).f0))).trans hx177_0; replace hx177_1 := (cell_far (p := ⟨gb175, 0, none⟩) (by first | (rw [add_block]; exact hn177_0) | (show (Addr.add _ _).block ≠ _; rw [add_block]; exact hn177_0) | exact hn177_0) (.string ((rd_T71 l0_0 x8_1).f0))).trans hx177_1; replace hx177_0 := (cell_far (p := ⟨gb175, 1, none⟩) (by first | (rw [add_block]; exact hn177_1) | (show (Addr.add _ _).block ≠ _; rw [add_block]; exact hn177_1) | exact hn177_1) (.string ((rd_T71 l0_0 x8_1).f1))).trans hx177_0; replace hx177_1 := (cell_far (p := ⟨gb175, 1, none⟩) (by first | (rw [add_block]; exact hn177_1) | (show (Addr.add _ _).block ≠ _; rw [add_block]; exact hn177_1) | exact hn177_1) (.string ((rd_T71 l0_0 x8_1).f1))).trans hx177_1; (try have hy177_0 := fun (n_ : Nat) => (show ((((w22.drewN n_).setCell ⟨gb175, 0, none⟩ (.string ((rd_T71 l0_0 x8_1).f0))).setCell ⟨gb175, 1, none⟩ (.string ((rd_T71 l0_0 x8_1).f1)))).cell? _ = some _ from hx177_0)); (try have hy177_1 := fun (n_ : Nat) => (show ((((w22.drewN n_).setCell ⟨gb175, 0, none⟩ (.string ((rd_T71 l0_0 x8_1).f0))).setCell ⟨gb175, 1, none⟩ (.string ((rd_T71 l0_0 x8_1).f1)))).cell? _ = some _ from hx177_1)); clear hn177_0; clear hn177_1; replace p177 := eq_true p177; replace q177 := eq_true q177)))
                        go_ret
                        exact ⟨by first | rfl | (simp [errW_none, errW_some] <;> rfl) | (simp only [← hji14]; first | rfl | (simp [errW_none, errW_some] <;> rfl)) | (simp [*, errW_none, errW_some] <;> rfl), t53_⟩
                    · rw [if_neg c16] at H
                      exact absurd H (by simp)
                  · rw [if_neg c15] at H
                    exact absurd H (by simp)
                · rw [if_neg c13] at H
                  have c13b0 : decide (0 < x8_1) = false := decide_eq_false c13
                  clear c13
                  have H' := Aside0.mk H
                  clear H
                  have p174 : 0 ≤ (x8_1 : Int) := of_decide_eq_true t7_
                  have q174 : x8_1 < (l0_0.length : Int) := of_decide_eq_true t7_
                  obtain ⟨ad174, e174, hx174_0, hx174_1⟩ := at_T71 HR0_0.out x8_1 p174 q174
                  cases e174
                  replace hx174_0 := (HB.out.cell (World.block_lt_of_cell? w _ hx174_0)).trans hx174_0
                  replace hx174_1 := (HB.out.cell (World.block_lt_of_cell? w _ hx174_1)).trans hx174_1
                  replace p174 := eq_true p174
                  replace q174 := eq_true q174
                  go_wp2_with (first | ((with_reducible refine gate_dst (N := 4) rfl ?_); (try (refine gate_guard (by rfl) ?_; dsimp only)); refine boxE (N := 4) (cs := #[.string (⟨#[]⟩ : ByteArray), .string (⟨#[]⟩ : ByteArray)]) (t := 71) (h := ?_); intro gb175 hg w26 hbox hb; have BK175 := Aside0.mk (hbox); have GW175 := Aside0.mk ((t15_ : w.heap.size ≤ gb175)); have GE175 := Aside0.mk ((t15_ : w.heap.size ≤ gb175)); replace HB := Aside0.mk (below_step t9_ hb); have NB173_175 := nbL BK173 hg; have NB175_173 := nbG BK173 hg; replace BK173 := bkN BK173 hb; clear hb hbox hg; have hnb27 := NB175_173.out; have hnc27 := NB173_175.out; have hcz28_0 := bc0 BK175; have hcz28_1 := bc1 BK175; have hfz28_0 := bf BK175 0; have hfz28_1 := bf BK175 1) | (go_at_call 60; (with_reducible refine (impl_within.calls (((rd_T71 l0_0 x8_1).f0).size : Int) 1 12 true _ A7.out).mono ?_); rintro e w' ⟨rfl, ⟨nd, rfl⟩⟩; (try first | exact ⟨rfl, _, World.drewN_drewN _ _ _⟩ | exact ⟨rfl, _, Eq.trans (World.drewN_drewN _ _ _) (congrArg (World.drewN _) (Nat.add_assoc _ _ _))⟩)))
                  repeat (go_quiet (first | ((with_reducible refine gate_dst (N := 4) rfl ?_); (try (refine gate_guard (by rfl) ?_; dsimp only)); refine boxE (N := 4) (cs := #[.string (⟨#[]⟩ : ByteArray), .string (⟨#[]⟩ : ByteArray)]) (t := 71) (h := ?_); intro gb175 hg w26 hbox hb; have BK175 := Aside0.mk (hbox); have GW175 := Aside0.mk ((t15_ : w.heap.size ≤ gb175)); have GE175 := Aside0.mk ((t15_ : w.heap.size ≤ gb175)); replace HB := Aside0.mk (below_step t9_ hb); have NB173_175 := nbL BK173 hg; have NB175_173 := nbG BK173 hg; replace BK173 := bkN BK173 hb; clear hb hbox hg; have hnb27 := NB175_173.out; have hnc27 := NB173_175.out; have hcz28_0 := bc0 BK175; have hcz28_1 := bc1 BK175; have hfz28_0 := bf BK175 0; have hfz28_1 := bf BK175 1) | (go_at_call 60; (with_reducible refine (impl_within.calls (((rd_T71 l0_0 x8_1).f0).size : Int) 1 12 true _ A7.out).mono ?_); rintro e w' ⟨rfl, ⟨nd, rfl⟩⟩; (try first | exact ⟨rfl, _, World.drewN_drewN _ _ _⟩ | exact ⟨rfl, _, Eq.trans (World.drewN_drewN _ _ _) (congrArg (World.drewN _) (Nat.add_assoc _ _ _))⟩))); try go_wp2_with (first | ((with_reducible refine gate_dst (N := 4) rfl ?_); (try (refine gate_guard (by rfl) ?_; dsimp only)); refine boxE (N := 4) (cs := #[.string (⟨#[]⟩ : ByteArray), .string (⟨#[]⟩ : ByteArray)]) (t := 71) (h := ?_); intro gb175 hg w26 hbox hb; have BK175 := Aside0.mk (hbox); have GW175 := Aside0.mk ((t15_ : w.heap.size ≤ gb175)); have GE175 := Aside0.mk ((t15_ : w.heap.size ≤ gb175)); replace HB := Aside0.mk (below_step t9_ hb); have NB173_175 := nbL BK173 hg; have NB175_173 := nbG BK173 hg; replace BK173 := bkN BK173 hb; clear hb hbox hg; have hnb27 := NB175_173.out; have hnc27 := NB173_175.out; have hcz28_0 := bc0 BK175; have hcz28_1 := bc1 BK175; have hfz28_0 := bf BK175 0; have hfz28_1 := bf BK175 1) | (go_at_call 60; (with_reducible refine (impl_within.calls (((rd_T71 l0_0 x8_1).f0).size : Int) 1 12 true _ A7.out).mono ?_); rintro e w' ⟨rfl, ⟨nd, rfl⟩⟩; (try first | exact ⟨rfl, _, World.drewN_drewN _ _ _⟩ | exact ⟨rfl, _, Eq.trans (World.drewN_drewN _ _ _) (congrArg (World.drewN _) (Nat.add_assoc _ _ _))⟩))))
                  go_roundg k1
                  case measure => have := HK1.out; omega
                  case rel => exact ⟨(wrap64 (x8_1 + 1)), t19_, H', ⟨by have := HK1.out; omega⟩, ⟨by (with_reducible repeat (first | refine blk_drewN ?_ _ | refine blk_drew ?_ | refine blk_alloc ?_ _)); refine blk_far ?_ NB173_175.out _; (with_reducible repeat (first | refine blk_drewN ?_ _ | refine blk_drew ?_ | refine blk_alloc ?_ _)); refine blk_far ?_ NB173_175.out _; (with_reducible repeat (first | refine blk_drewN ?_ _ | refine blk_drew ?_ | refine blk_alloc ?_ _)); exact BK173.out⟩, ⟨t53_⟩⟩
            · replace c8 := Bool.eq_false_iff.mpr c8
              subst c8
              have H1 : (some false) = some r := by rw [if_neg (show ¬ (false = true) by decide)] at H; exact H
              clear H
              have H := H1
              clear H1
              obtain rfl := Option.some.inj H
              have p174 : 0 ≤ (x8_1 : Int) := of_decide_eq_true t7_
              have q174 : x8_1 < (l0_0.length : Int) := of_decide_eq_true t7_
              obtain ⟨ad174, e174, hx174_0, hx174_1⟩ := at_T71 HR0_0.out x8_1 p174 q174
              cases e174
              replace hx174_0 := (HB.out.cell (World.block_lt_of_cell? w _ hx174_0)).trans hx174_0
              replace hx174_1 := (HB.out.cell (World.block_lt_of_cell? w _ hx174_1)).trans hx174_1
              replace p174 := eq_true p174
              replace q174 := eq_true q174
              go_wp2_with (first | ((with_reducible refine gate_dst (N := 4) rfl ?_); (try (refine gate_guard (by rfl) ?_; dsimp only)); refine boxE (N := 4) (cs := #[.string (⟨#[]⟩ : ByteArray), .string (⟨#[]⟩ : ByteArray)]) (t := 71) (h := ?_); intro gb175 hg w29 hbox hb; have BK175 := Aside0.mk (hbox); have GW175 := Aside0.mk ((t15_ : w.heap.size ≤ gb175)); have GE175 := Aside0.mk ((t15_ : w.heap.size ≤ gb175)); replace HB := Aside0.mk (below_step t9_ hb); have NB173_175 := nbL BK173 hg; have NB175_173 := nbG BK173 hg; replace BK173 := bkN BK173 hb; clear hb hbox hg; have hnb30 := NB175_173.out; have hnc30 := NB173_175.out; have hcz31_0 := bc0 BK175; have hcz31_1 := bc1 BK175; have hfz31_0 := bf BK175 0; have hfz31_1 := bf BK175 1) | (go_at_call 60; (with_reducible refine (impl_within.calls (((rd_T71 l0_0 x8_1).f0).size : Int) 1 12 false _ A7.out).mono ?_); rintro e w' ⟨rfl, ⟨nd, rfl⟩⟩; (try first | exact ⟨rfl, _, World.drewN_drewN _ _ _⟩ | exact ⟨rfl, _, Eq.trans (World.drewN_drewN _ _ _) (congrArg (World.drewN _) (Nat.add_assoc _ _ _))⟩)))
              repeat (go_quiet (first | ((with_reducible refine gate_dst (N := 4) rfl ?_); (try (refine gate_guard (by rfl) ?_; dsimp only)); refine boxE (N := 4) (cs := #[.string (⟨#[]⟩ : ByteArray), .string (⟨#[]⟩ : ByteArray)]) (t := 71) (h := ?_); intro gb175 hg w29 hbox hb; have BK175 := Aside0.mk (hbox); have GW175 := Aside0.mk ((t15_ : w.heap.size ≤ gb175)); have GE175 := Aside0.mk ((t15_ : w.heap.size ≤ gb175)); replace HB := Aside0.mk (below_step t9_ hb); have NB173_175 := nbL BK173 hg; have NB175_173 := nbG BK173 hg; replace BK173 := bkN BK173 hb; clear hb hbox hg; have hnb30 := NB175_173.out; have hnc30 := NB173_175.out; have hcz31_0 := bc0 BK175; have hcz31_1 := bc1 BK175; have hfz31_0 := bf BK175 0; have hfz31_1 := bf BK175 1) | (go_at_call 60; (with_reducible refine (impl_within.calls (((rd_T71 l0_0 x8_1).f0).size : Int) 1 12 false _ A7.out).mono ?_); rintro e w' ⟨rfl, ⟨nd, rfl⟩⟩; (try first | exact ⟨rfl, _, World.drewN_drewN _ _ _⟩ | exact ⟨rfl, _, Eq.trans (World.drewN_drewN _ _ _) (congrArg (World.drewN _) (Nat.add_assoc _ _ _))⟩))); try go_wp2_with (first | ((with_reducible refine gate_dst (N := 4) rfl ?_); (try (refine gate_guard (by rfl) ?_; dsimp only)); refine boxE (N := 4) (cs := #[.string (⟨#[]⟩ : ByteArray), .string (⟨#[]⟩ : ByteArray)]) (t := 71) (h := ?_); intro gb175 hg w29 hbox hb; have BK175 := Aside0.mk (hbox); have GW175 := Aside0.mk ((t15_ : w.heap.size ≤ gb175)); have GE175 := Aside0.mk ((t15_ : w.heap.size ≤ gb175)); replace HB := Aside0.mk (below_step t9_ hb); have NB173_175 := nbL BK173 hg; have NB175_173 := nbG BK173 hg; replace BK173 := bkN BK173 hb; clear hb hbox hg; have hnb30 := NB175_173.out; have hnc30 := NB173_175.out; have hcz31_0 := bc0 BK175; have hcz31_1 := bc1 BK175; have hfz31_0 := bf BK175 0; have hfz31_1 := bf BK175 1) | (go_at_call 60; (with_reducible refine (impl_within.calls (((rd_T71 l0_0 x8_1).f0).size : Int) 1 12 false _ A7.out).mono ?_); rintro e w' ⟨rfl, ⟨nd, rfl⟩⟩; (try first | exact ⟨rfl, _, World.drewN_drewN _ _ _⟩ | exact ⟨rfl, _, Eq.trans (World.drewN_drewN _ _ _) (congrArg (World.drewN _) (Nat.add_assoc _ _ _))⟩))))
              go_ret
              exact ⟨by first | rfl | (simp [errW_none, errW_some] <;> rfl) | (simp [*, errW_none, errW_some] <;> rfl), t53_⟩
          · rw [if_neg c6] at H
            exact absurd H (by simp)
        · rw [if_neg c5] at H
          exact absurd H (by simp)
      · rw [if_neg c4] at H
        have c4b0 : decide (x8_1 < (l0_0.length : Int)) = false := decide_eq_false c4
        clear c4
        obtain rfl := Option.some.inj H
        have hcz32_0 := bc0 BK173
        have hfz32_0 := bf BK173 0
        go_wp2
        repeat (go_quiet (fail); try go_wp2)
        go_ret
        exact ⟨by first | rfl | (simp [errW_none, errW_some] <;> rfl) | (simp [*, errW_none, errW_some] <;> rfl), t9_⟩

/-! ### bytealg_CompareString: function 110 -/
def bytealg_CompareString.f (a0 : ByteArray) (a1 : ByteArray) : Option Int := some (Lib.compareBytes a0.data.toList a1.data.toList)
set_option maxHeartbeats 1000000 in
set_option maxRecDepth 100000 in
theorem bytealg_CompareString.same (a b : ByteArray) (w : World) :
    Calls Try.prog 110 #[.string a, .string b] w fun e w' => e = .returned (.int .i64 (Lib.compareBytes a.data.toList b.data.toList)) ∧ w' = w := by
  go_enter Try.func110, Try.ntmps110
  go_wp2
  rw [run_callFunc_extern Try.func133 (by kernel_rfl) (by kernel_rfl) (by kernel_rfl) (e := Extern.BytealgCompare.compare) (by kernel_rfl), Lib.run_compareString]
  simp only [Result.andThen]
  rw [Oper.upon_value]
  go_wp2
  go_ret
  exact ⟨rfl, rfl⟩
theorem bytealg_CompareString.calls (a0 : ByteArray) (a1 : ByteArray) (r : Int) (w : World) (h : bytealg_CompareString.f a0 a1 = some r) :
    Calls Try.prog 110 #[.string a0, .string a1] w fun e w' => e = .returned (.int .i64 r) ∧ Drawn0 w w' := by
  obtain rfl := Option.some.inj h
  exact (bytealg_CompareString.same a0 a1 w).mono fun e w' ⟨he, hw⟩ => ⟨he, by rw [hw]; exact Drawn0.refl w⟩

/-! ### strings_Compare: function 74 -/
def strings_Compare.f (a0 : ByteArray) (a1 : ByteArray) : Option (Int) := (bytealg_CompareString.f a0 a1).bind fun t178 => (some t178)
set_option maxHeartbeats 8000000 in
set_option maxRecDepth 100000 in
theorem strings_Compare.calls (a0 : ByteArray) (a1 : ByteArray) (r : Int) (w : World) (h : strings_Compare.f a0 a1 = some r) :
    Calls Try.prog 74 #[.string a0, .string a1] w fun e w' => e = .returned (.int .i64 r) ∧ Drawn0 w w' := by
  have H : ((bytealg_CompareString.f a0 a1).bind fun t178 => (some t178)) = some r := h
  clear h
  replace H := Option.bind_eq_some_iff.mp H
  obtain ⟨t178, A30, H⟩ := H
  replace H : (some t178) = some r := H
  have A3 := Aside0.mk A30
  clear A30
  obtain rfl := Option.some.inj H
  go_enter Try.func74, Try.ntmps74
  go_wp2_with (first | ((with_reducible refine gate_callee (f := 110) rfl ?_); refine goesL_ (some 7) rfl rfl Try.func110 (by kernel_rfl) rfl #[.string a0, .string a1] rfl t1_ ?_; (with_reducible refine (bytealg_CompareString.calls a0 a1 t178 _ A3.out).mono ?_); rintro e w' ⟨rfl, ⟨nd, rfl⟩⟩; refine ⟨_, rfl, ?_⟩))
  go_ret
  exact ⟨by first | rfl | (simp; done) | (simp [*]; done), t81_⟩

/-! ### impl_fileNo_1: function 117 -/
def impl_fileNo_1.f (a0_0 : ByteArray) (a0_1 : ByteArray) (a1 : ByteArray) : Option (Int) := (strings_Compare.f a0_0 a1).bind fun t180 => (some t180)
set_option maxHeartbeats 8000000 in
set_option maxRecDepth 100000 in
theorem impl_fileNo_1.calls (a0_0 : ByteArray) (a0_1 : ByteArray) (a1 : ByteArray) (r : Int) (w : World) (h : impl_fileNo_1.f a0_0 a0_1 a1 = some r) :
    Calls Try.prog 117 #[.agg #[.string a0_0, .string a0_1], .string a1] w fun e w' => e = .returned (.int .i64 r) ∧ Below w.heap.size w w' := by
  have hu71 := Try.underlying71
  have HB := Aside0.mk (Below.refl w.heap.size w)
  have H : ((strings_Compare.f a0_0 a1).bind fun t180 => (some t180)) = some r := h
  clear h
  replace H := Option.bind_eq_some_iff.mp H
  obtain ⟨t180, A30, H⟩ := H
  replace H : (some t180) = some r := H
  have A3 := Aside0.mk A30
  clear A30
  obtain rfl := Option.some.inj H
  go_enter Try.func117, Try.ntmps117
  go_wp2_with (first | ((with_reducible refine gate_dst (N := 2) rfl ?_); refine boxE (N := 2) (cs := #[.string a0_0, .string a0_1]) (t := 71) (h := ?_); intro gb179 hg w4 hbox hb; have BK179 := Aside0.mk (hbox); have GW179 := Aside0.mk ((t4_ : w.heap.size ≤ gb179)); have GE179 := Aside0.mk ((t4_ : w.heap.size ≤ gb179)); replace HB := Aside0.mk (below_step t0_ hb); clear hb hbox hg; have hcz5_0 := bc0 BK179; have hcz5_1 := bc1 BK179; have hfz5_0 := bf BK179 0; have hfz5_1 := bf BK179 1) | ((with_reducible refine gate_callee (f := 74) rfl ?_); refine goesL_ (some 8) rfl rfl Try.func74 (by kernel_rfl) rfl #[.string a0_0, .string a1] rfl t1_ ?_; (with_reducible refine (strings_Compare.calls a0_0 a1 t180 _ A3.out).mono ?_); rintro e w' ⟨rfl, ⟨nd, rfl⟩⟩; refine ⟨_, rfl, ?_⟩))
  go_ret
  exact ⟨by first | rfl | (simp [errW_none, errW_some] <;> rfl) | (simp [*, errW_none, errW_some] <;> rfl), by repeat (first | (with_reducible first | exact HB.out | apply below_alloc | apply pw_below_drewN | apply below_drew1 | refine below_set ?_ GE179.out) | exact HB.out)⟩

end Go.Proofs.Ytpjhbhjmaggheaa.QFnExactPutRaws
