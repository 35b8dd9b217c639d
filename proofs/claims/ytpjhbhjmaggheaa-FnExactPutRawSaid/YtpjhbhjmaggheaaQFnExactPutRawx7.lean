-- By a program of this session, over the kit's print.
import Derived.Test.YtpjhbhjmaggheaaQFnExactPutRawx0
import Derived.Test.YtpjhbhjmaggheaaQFnExactPutRawx6
namespace Go.Proofs.Ytpjhbhjmaggheaa.QFnExactPutRaw
open Go.RowKit Go.Proofs.YtpjhbhjmaggheaaW.PrintWords Go.Proofs.YtpjhbhjmaggheaaW.PrintLast Go.Proofs.YtpjhbhjmaggheaaW.PrintMore
attribute [local go_sem] max2_int min2_int max_two min_two max_three min_three max_four min_four   -- for this text's walks alone
set_option linter.unusedVariables false
set_option linter.unusedSimpArgs false

/-! ### impl_withFile: function 89 -/
def impl_withFile.f (l0_0 : List (S71)) (a1 : ByteArray) (a2 : ByteArray) : Option ((List (S71))) := (impl_copyDisk.f l0_0).bind fun t242 => ((impl_fileNo.f l0_0 a1).bind fun bt246 => (if bt246.2 = true then (if 0 ≤ bt246.1 then (if bt246.1 < (t242.length : Int) then (some (t242.set (bt246.1 : Int).toNat (⟨(rd_T71 t242 bt246.1).f0, a2⟩ : S71))) else (none)) else (none)) else ((impl_File_118.f t242 bt246.1 (([(⟨a1, a2⟩ : S71)] : List (S71)))).bind fun t252 => (some t252))))
set_option maxHeartbeats 8000000 in
set_option maxRecDepth 100000 in
theorem impl_withFile.calls (A0_0 : Option Addr) (c0_0 : Nat) (l0_0 : List (S71)) (a1 : ByteArray) (a2 : ByteArray) (r : List (S71)) (w : World) (hr0_0 : Kd.C k71 w A0_0 l0_0.length l0_0) (hc0_0 : l0_0.length ≤ c0_0) (h : impl_withFile.f l0_0 a1 a2 = some r) :
    Calls Try.prog 89 #[.agg #[.slice A0_0 l0_0.length c0_0], .string a1, .string a2] w fun e w' => ∃ v0_ : Value, e = .returned (.agg #[v0_]) ∧ Kd.R k71 71 w' w.heap.size (fun _ => True) v0_ r ∧ Below w.heap.size w w' := by
  have hu30 := Try.underlying30
  have hu71 := Try.underlying71
  have HR0_0 := Aside0.mk hr0_0
  have HC0_0 := Aside0.mk hc0_0
  clear hr0_0 hc0_0
  have HB := Aside0.mk (Below.refl w.heap.size w)
  have H : ((impl_copyDisk.f l0_0).bind fun t242 => ((impl_fileNo.f l0_0 a1).bind fun bt246 => (if bt246.2 = true then (if 0 ≤ bt246.1 then (if bt246.1 < (t242.length : Int) then (some (t242.set (bt246.1 : Int).toNat (⟨(rd_T71 t242 bt246.1).f0, a2⟩ : S71))) else (none)) else (none)) else ((impl_File_118.f t242 bt246.1 (([(⟨a1, a2⟩ : S71)] : List (S71)))).bind fun t252 => (some t252))))) = some r := h
  clear h
  replace H := Option.bind_eq_some_iff.mp H
  obtain ⟨t242, A40, H⟩ := H
  replace H : ((impl_fileNo.f l0_0 a1).bind fun bt246 => (if bt246.2 = true then (if 0 ≤ bt246.1 then (if bt246.1 < (t242.length : Int) then (some (t242.set (bt246.1 : Int).toNat (⟨(rd_T71 t242 bt246.1).f0, a2⟩ : S71))) else (none)) else (none)) else ((impl_File_118.f t242 bt246.1 (([(⟨a1, a2⟩ : S71)] : List (S71)))).bind fun t252 => (some t252)))) = some r := H
  have A4 := Aside0.mk A40
  clear A40
  replace H := Option.bind_eq_some_iff.mp H
  obtain ⟨⟨t246, t247⟩, A50, H⟩ := H
  replace H : (if t247 = true then (if 0 ≤ t246 then (if t246 < (t242.length : Int) then (some (t242.set (t246 : Int).toNat (⟨(rd_T71 t242 t246).f0, a2⟩ : S71))) else (none)) else (none)) else ((impl_File_118.f t242 t246 (([(⟨a1, a2⟩ : S71)] : List (S71)))).bind fun t252 => (some t252))) = some r := H
  have A5 := Aside0.mk A50
  clear A50
  by_cases c6 : t247 = true
  · subst c6
    have H1 : (if 0 ≤ t246 then (if t246 < (t242.length : Int) then (some (t242.set (t246 : Int).toNat (⟨(rd_T71 t242 t246).f0, a2⟩ : S71))) else (none)) else (none)) = some r := by rw [if_pos rfl] at H; exact H
    clear H
    have H := H1
    clear H1
    by_cases c7 : 0 ≤ t246
    · rw [if_pos c7] at H
      have c7b0 : decide (0 ≤ t246) = true := decide_eq_true c7
      clear c7
      by_cases c8 : t246 < (t242.length : Int)
      · rw [if_pos c8] at H
        have c8b0 : decide (t246 < (t242.length : Int)) = true := decide_eq_true c8
        clear c8
        obtain ⟨y248, hy248⟩ : ∃ y_ : List (S71), y_ = (t242.set (t246 : Int).toNat (⟨(rd_T71 t242 t246).f0, a2⟩ : S71)) := ⟨_, rfl⟩
        replace H : (some y248) = some r := by first | (rw [hy248]; with_reducible exact H) | (have H2_ := (Option.bind_some _ _).symm.trans H; rw [hy248]; with_reducible exact H2_) | (have H2_ := (Option.bind_some _ _).symm.trans H; with_reducible exact H2_) | with_reducible exact H | (rw [hy248]; exact H) | exact H
        have Ny248 := Aside0.mk hy248
        clear hy248
        obtain rfl := Option.some.inj H
        go_enter Try.func89, Try.ntmps89
        go_wp2_with (first | ((with_reducible refine gate_dst (N := 3) rfl ?_); refine boxE (N := 3) (cs := #[.slice A0_0 l0_0.length c0_0]) (t := 30) (h := ?_); intro gb240 hg w10 hbox hb; have BK240 := Aside0.mk (hbox); have GW240 := Aside0.mk ((t4_ : w.heap.size ≤ gb240)); have GE240 := Aside0.mk ((t4_ : w.heap.size ≤ gb240)); replace HB := Aside0.mk (below_step t0_ hb); clear hb hbox hg) | ((with_reducible refine gate_dst (N := 6) rfl ?_); refine boxE (N := 6) (cs := #[.slice none 0 0]) (t := 30) (h := ?_); intro gb241 hg w11 hbox hb; have BK241 := Aside0.mk (hbox); have GW241 := Aside0.mk ((t60_ : w.heap.size ≤ gb241)); have GE241 := Aside0.mk ((t60_ : w.heap.size ≤ gb241)); replace HB := Aside0.mk (below_step t55_ hb); have NB240_241 := nbL BK240 hg; have NB241_240 := nbG BK240 hg; replace BK240 := bkN BK240 hb; clear hb hbox hg; have hnb12 := NB240_241.out; have hnc12 := NB241_240.out; have hcz13_0 := bc0 BK240; have hfz13_0 := bf BK240 0) | ((with_reducible refine gate_callee (f := 84) rfl ?_); refine goesL_ (some 11) rfl rfl Try.func84 (by kernel_rfl) rfl #[.agg #[.slice A0_0 l0_0.length c0_0]] rfl t2_ ?_; (with_reducible refine (impl_copyDisk.calls _ _ l0_0 t242 _ ?side1 ?side2 A4.out).mono ?_); (case side1 => exact cB HR0_0 HB); (case side2 => exact HC0_0.out); rintro e w14 ⟨v243, rfl, ho0, hb⟩; refine ⟨_, rfl, ?_⟩; have HO244 := Aside0.mk (Kd.R_lower ho0 (below_size t29_)); replace BK240 := bkN BK240 hb; replace BK241 := bkN BK241 hb; replace HB := Aside0.mk (below_step t29_ hb); (try clear hb); (try clear hb2); (try clear hk); (try clear hi); (try clear ho0)) | ((with_reducible refine gate_dst (N := 7) rfl ?_); refine boxE (N := 7) (cs := #[.slice none 0 0]) (t := 30) (h := ?_); intro gb245 hg w15 hbox hb; replace HO244 := Aside0.mk (Kd.R_below t68_ hb); have BK245 := Aside0.mk (hbox); have GW245 := Aside0.mk ((t58_ : w.heap.size ≤ gb245)); have GE245 := Aside0.mk ((t58_ : w.heap.size ≤ gb245)); replace HB := Aside0.mk (below_step t29_ hb); have NB240_245 := nbL BK240 hg; have NB245_240 := nbG BK240 hg; replace BK240 := bkN BK240 hb; have NB241_245 := nbL BK241 hg; have NB245_241 := nbG BK241 hg; replace BK241 := bkN BK241 hb; clear hb hbox hg; obtain ⟨Ao16, co16, eo16⟩ := Kd.R_slice HO244.out; subst eo16; have hnb17 := NB245_240.out; have hnc17 := NB240_245.out; have hnb18 := NB245_241.out; have hnc18 := NB241_245.out; have hcz19_0 := bc0 BK245; have hfz19_0 := bf BK245 0; have hcz20_0 := bc0 BK240; have hfz20_0 := bf BK240 0) | ((with_reducible refine gate_callee (f := 85) rfl ?_); refine goesL_ (some 15) rfl rfl Try.func85 (by kernel_rfl) rfl #[.agg #[.slice A0_0 l0_0.length c0_0], .string a1] rfl t2_ ?_; (with_reducible refine (impl_fileNo.calls _ _ l0_0 a1 t246 true _ ?side1 ?side2 A5.out).mono ?_); (case side1 => exact Kd.C_below HR0_0.out t32_); (case side2 => exact HC0_0.out); rintro e w21 ⟨rfl, hb⟩; refine ⟨_, rfl, ?_⟩; replace HO244 := Aside0.mk (Kd.R_below (by (with_reducible repeat (first | apply Kd.R_alloc | apply Kd.R_drewN | apply Kd.R_drew)); exact (Kd.R_mono (Kd.R_far (p := ⟨gb245, 0, none⟩) (Kd.R_types HO244.out BK245.out (by decide)) (fun _ hk => hk.2) (.slice Ao16 t242.length co16)) (fun _ h_ => h_.1))) hb); replace BK240 := bkF BK240 NB240_245 hb; replace BK241 := bkF BK241 NB241_245 hb; replace BK245 := Aside0.mk (blk_below (g := gb245) (o := .cells #[.slice Ao16 t242.length co16] 30 (0, 0)) (by (with_reducible repeat (first | refine blk_drewN ?_ _ | refine blk_drew ?_ | refine blk_alloc ?_ _)); refine blk_put (cs := #[.slice none 0 0]) ?_ 0 _ rfl; (with_reducible repeat (first | refine blk_drewN ?_ _ | refine blk_drew ?_ | refine blk_alloc ?_ _)); exact BK245.out) hb); replace HB := Aside0.mk (below_step t32_ hb); (try clear hb); (try clear hb2); (try clear hk); (try clear hi); have hcz22_0 := bc0 BK245; have hfz22_0 := bf BK245 0; have p9 : 0 ≤ (t246 : Int) := of_decide_eq_true t13_; have q9 : (t246 : Int) < ((t242.length : Int) : Int) := of_decide_eq_true t13_; obtain ⟨go9, co9, eo9, gb9, gl9, cl9, HG9⟩ := Kd.R_form HO244.out (by omega); (first | cases eo9 | (injection eo9 with ea_ en_ ec_; (first | subst ea_ | (injection ea_ with ea_; subst ea_)); subst ec_; clear en_)); have GB9 := Aside0.mk gb9; have GG9 := Aside0.mk HG9; clear gb9 gl9 HG9; obtain ⟨ce9, hcl9, hM9, hcc9, hfr9⟩ := Kd.R_elem HO244.out z71 (t246 : Int) p9 q9; obtain rfl := k71_openM hM9; have hx9_0 : w21.cell? ⟨go9, (t246 : Int).toNat * 2, none⟩ = some (.string ((rd_T71 t242 t246).f0)) := hcc9 0 _ rfl; have hx9_1 : w21.cell? ⟨go9, (t246 : Int).toNat * 2 + 1, none⟩ = some (.string ((rd_T71 t242 t246).f1)) := hcc9 1 _ rfl; have hf9_0 : w21.frozen? ⟨go9, (t246 : Int).toNat * 2, none⟩ = false := hfr9 0; have hf9_1 : w21.frozen? ⟨go9, (t246 : Int).toNat * 2 + 1, none⟩ = false := hfr9 1; clear hcl9 hcc9 hfr9 hM9; replace p9 := eq_true p9; replace q9 := eq_true q9; have HX23 := Aside0.mk (show Kd.R k71 71 w21 w.heap.size (fun _ => True) (.slice (some ⟨go9, 0, none⟩) t242.length co16) t242 from t68_); obtain ⟨ce23, hcl23, hM23, hcc23, hfr23⟩ := Kd.R_elem HX23.out z71 (t246 : Int) (of_decide_eq_true t13_) (by have h_ : (t246 : Int) < ((t242.length : Int) : Int) := of_decide_eq_true t13_; first | exact h_ | (have e_ := (Kd.R_reads' HO244.out).1; omega) | simpa using h_); obtain rfl := k71_openM hM23; have HP23 := Kd.R_seg HX23.out (t246 : Int) (of_decide_eq_true t13_) (by have h_ : (t246 : Int) < ((t242.length : Int) : Int) := of_decide_eq_true t13_; first | exact h_ | (have e_ := (Kd.R_reads' HO244.out).1; omega) | simpa using h_) (seg := [.string a2]) (j := 1) hcl23 hcc23 (show 2 ≤ 2 from by decide) (x' := (⟨(rd_T71 t242 t246).f0, a2⟩ : S71)) (k71_mkM _ _ _ (⟨(rd_T71 t242 t246).f0, a2⟩ : S71) ) (fun _ hk => hk); have hx23_1 := hcc23 1 _ rfl; (try simp only [show (k71).sz = 2 from rfl, Nat.mul_one, Nat.add_zero] at hx23_1); have hf23_1 := hfr23 1; (try simp only [show (k71).sz = 2 from rfl, Nat.mul_one, Nat.add_zero] at hf23_1); clear hcl23 hcc23 hfr23 hM23) | ((with_reducible refine gate_store (t := 9) (p := 24) rfl ?_); refine store_event (t := 9) (p := 24) (v := ?vo_w24) (w1 := (w21.setCell ⟨go9, (t246 : Int).toNat * 2 + 1, none⟩ (.string a2))) ?hg ?ho ?hn ?hr ?_; (case ho => rfl); (case hg => rfl); (case hn => rfl); (case hr => first | (go_simp; done) | (go_simp; rfl)); intro w24 hw; have hg : w21.grownBy w24 (some go9) := (by rw [hw]; exact HP23.2); have hp_ : Kd.R k71 71 w24 w.heap.size (fun _ => True) (.slice (some ⟨go9, 0, none⟩) t242.length co16) y248 := (by rw [hw, Ny248.out]; exact HP23.1); clear HP23; replace BK240 := Aside0.mk (blk_grown (g := gb240) (o := .cells #[.slice A0_0 l0_0.length c0_0] 30 (0, 0)) (by (with_reducible repeat (first | refine blk_drewN ?_ _ | refine blk_drew ?_ | refine blk_alloc ?_ _)); exact BK240.out) hg (Kd.R_ne HO244.out BK240.out (by decide))); replace BK241 := Aside0.mk (blk_grown (g := gb241) (o := .cells #[.slice none 0 0] 30 (0, 0)) (by (with_reducible repeat (first | refine blk_drewN ?_ _ | refine blk_drew ?_ | refine blk_alloc ?_ _)); exact BK241.out) hg (Kd.R_ne HO244.out BK241.out (by decide))); replace BK245 := Aside0.mk (blk_grown (g := gb245) (o := .cells #[.slice (some ⟨go9, 0, none⟩) t242.length co16] 30 (0, 0)) (by (with_reducible repeat (first | refine blk_drewN ?_ _ | refine blk_drew ?_ | refine blk_alloc ?_ _)); exact BK245.out) hg (Kd.R_ne HO244.out BK245.out (by decide))); replace HO244 := Aside0.mk (hp_); replace HB := Aside0.mk ((by rw [hw]; exact below_set (HB.out) GB9.out : Below w.heap.size w w24)); clear hg hw hp_; have hcz25_0 := bc0 BK245; have hfz25_0 := bf BK245 0; have hcz26_0 := bc0 BK241; have hfz26_0 := bf BK241 0))
        refine bodyPost_ret (results_cell_row rfl _ _ gb241 30 #[.slice (some ⟨go9, 0, none⟩) t242.length co16] (0, 0) _ rfl (by (with_reducible repeat (first | refine blk_drewN ?_ _ | refine blk_drew ?_ | refine blk_alloc ?_ _)); refine blk_put (cs := #[.slice none 0 0]) ?_ 0 _ rfl; (with_reducible repeat (first | refine blk_drewN ?_ _ | refine blk_drew ?_ | refine blk_alloc ?_ _)); exact BK241.out) Try.underlying30 rfl (by kernel_rfl)) rfl ?_
        exact ⟨_, by first | rfl | (simp [errW_none, errW_some] <;> rfl) | (simp [*, errW_none, errW_some] <;> rfl), by (with_reducible repeat (first | apply Kd.R_alloc | apply Kd.R_drewN | apply Kd.R_drew)); exact Kd.R_mono (Kd.R_far (p := ⟨gb241, 0, none⟩) (Kd.R_types HO244.out BK241.out (by decide)) (fun _ hk => hk.2) (.slice (some ⟨go9, 0, none⟩) t242.length co16)) (fun _ hk => trivial), t32_⟩
      · rw [if_neg c8] at H
        exact absurd H (by simp)
    · rw [if_neg c7] at H
      exact absurd H (by simp)
  · replace c6 := Bool.eq_false_iff.mpr c6
    subst c6
    have H1 : ((impl_File_118.f t242 t246 (([(⟨a1, a2⟩ : S71)] : List (S71)))).bind fun t252 => (some t252)) = some r := by rw [if_neg (show ¬ (false = true) by decide)] at H; exact H
    clear H
    have H := H1
    clear H1
    obtain ⟨y249, hy249⟩ : ∃ y_ : List (S71), y_ = (([(⟨a1, a2⟩ : S71)] : List (S71))) := ⟨_, rfl⟩
    replace H : ((impl_File_118.f t242 t246 y249).bind fun t252 => (some t252)) = some r := by first | (rw [hy249]; with_reducible exact H) | (have H2_ := (Option.bind_some _ _).symm.trans H; rw [hy249]; with_reducible exact H2_) | (have H2_ := (Option.bind_some _ _).symm.trans H; with_reducible exact H2_) | with_reducible exact H | (rw [hy249]; exact H) | exact H
    have Ny249 := Aside0.mk hy249
    clear hy249
    replace H := Option.bind_eq_some_iff.mp H
    obtain ⟨t252, A270, H⟩ := H
    replace H : (some t252) = some r := H
    have A27 := Aside0.mk A270
    clear A270
    obtain rfl := Option.some.inj H
    go_enter Try.func89, Try.ntmps89
    go_wp2_with (first | ((with_reducible refine gate_dst (N := 3) rfl ?_); refine boxE (N := 3) (cs := #[.slice A0_0 l0_0.length c0_0]) (t := 30) (h := ?_); intro gb240 hg w28 hbox hb; have BK240 := Aside0.mk (hbox); have GW240 := Aside0.mk ((t4_ : w.heap.size ≤ gb240)); have GE240 := Aside0.mk ((t4_ : w.heap.size ≤ gb240)); replace HB := Aside0.mk (below_step t0_ hb); clear hb hbox hg) | ((with_reducible refine gate_dst (N := 6) rfl ?_); refine boxE (N := 6) (cs := #[.slice none 0 0]) (t := 30) (h := ?_); intro gb241 hg w29 hbox hb; have BK241 := Aside0.mk (hbox); have GW241 := Aside0.mk ((t60_ : w.heap.size ≤ gb241)); have GE241 := Aside0.mk ((t60_ : w.heap.size ≤ gb241)); replace HB := Aside0.mk (below_step t55_ hb); have NB240_241 := nbL BK240 hg; have NB241_240 := nbG BK240 hg; replace BK240 := bkN BK240 hb; clear hb hbox hg; have hnb30 := NB240_241.out; have hnc30 := NB241_240.out; have hcz31_0 := bc0 BK240; have hfz31_0 := bf BK240 0) | ((with_reducible refine gate_callee (f := 84) rfl ?_); refine goesL_ (some 11) rfl rfl Try.func84 (by kernel_rfl) rfl #[.agg #[.slice A0_0 l0_0.length c0_0]] rfl t2_ ?_; (with_reducible refine (impl_copyDisk.calls _ _ l0_0 t242 _ ?side1 ?side2 A4.out).mono ?_); (case side1 => exact cB HR0_0 HB); (case side2 => exact HC0_0.out); rintro e w32 ⟨v243, rfl, ho0, hb⟩; refine ⟨_, rfl, ?_⟩; have HO244 := Aside0.mk (Kd.R_lower ho0 (below_size t29_)); replace BK240 := bkN BK240 hb; replace BK241 := bkN BK241 hb; replace HB := Aside0.mk (below_step t29_ hb); (try clear hb); (try clear hb2); (try clear hk); (try clear hi); (try clear ho0)) | ((with_reducible refine gate_dst (N := 7) rfl ?_); refine boxE (N := 7) (cs := #[.slice none 0 0]) (t := 30) (h := ?_); intro gb245 hg w33 hbox hb; replace HO244 := Aside0.mk (Kd.R_below t68_ hb); have BK245 := Aside0.mk (hbox); have GW245 := Aside0.mk ((t58_ : w.heap.size ≤ gb245)); have GE245 := Aside0.mk ((t58_ : w.heap.size ≤ gb245)); replace HB := Aside0.mk (below_step t29_ hb); have NB240_245 := nbL BK240 hg; have NB245_240 := nbG BK240 hg; replace BK240 := bkN BK240 hb; have NB241_245 := nbL BK241 hg; have NB245_241 := nbG BK241 hg; replace BK241 := bkN BK241 hb; clear hb hbox hg; obtain ⟨Ao34, co34, eo34⟩ := Kd.R_slice HO244.out; subst eo34; have hnb35 := NB245_240.out; have hnc35 := NB240_245.out; have hnb36 := NB245_241.out; have hnc36 := NB241_245.out; have hcz37_0 := bc0 BK245; have hfz37_0 := bf BK245 0; have hcz38_0 := bc0 BK240; have hfz38_0 := bf BK240 0) | ((with_reducible refine gate_callee (f := 85) rfl ?_); refine goesL_ (some 15) rfl rfl Try.func85 (by kernel_rfl) rfl #[.agg #[.slice A0_0 l0_0.length c0_0], .string a1] rfl t2_ ?_; (with_reducible refine (impl_fileNo.calls _ _ l0_0 a1 t246 false _ ?side1 ?side2 A5.out).mono ?_); (case side1 => exact Kd.C_below HR0_0.out t32_); (case side2 => exact HC0_0.out); rintro e w39 ⟨rfl, hb⟩; refine ⟨_, rfl, ?_⟩; replace HO244 := Aside0.mk (Kd.R_below (by (with_reducible repeat (first | apply Kd.R_alloc | apply Kd.R_drewN | apply Kd.R_drew)); exact (Kd.R_mono (Kd.R_far (p := ⟨gb245, 0, none⟩) (Kd.R_types HO244.out BK245.out (by decide)) (fun _ hk => hk.2) (.slice Ao34 t242.length co34)) (fun _ h_ => h_.1))) hb); replace BK240 := bkF BK240 NB240_245 hb; replace BK241 := bkF BK241 NB241_245 hb; replace BK245 := Aside0.mk (blk_below (g := gb245) (o := .cells #[.slice Ao34 t242.length co34] 30 (0, 0)) (by (with_reducible repeat (first | refine blk_drewN ?_ _ | refine blk_drew ?_ | refine blk_alloc ?_ _)); refine blk_put (cs := #[.slice none 0 0]) ?_ 0 _ rfl; (with_reducible repeat (first | refine blk_drewN ?_ _ | refine blk_drew ?_ | refine blk_alloc ?_ _)); exact BK245.out) hb); replace HB := Aside0.mk (below_step t32_ hb); (try clear hb); (try clear hb2); (try clear hk); (try clear hi); have hcz40_0 := bc0 BK245; have hfz40_0 := bf BK245 0) | ((with_reducible refine gate_dst (N := 31) rfl ?_); refine Kd.R_lit k71 _ 71 ?hg (N := 31) ?hd (xs := ([(⟨a1, a2⟩ : S71)] : List (S71))) (inner := [.string a1, .string a2]) (ok := fun _ => True) (okp := fun _ => True) ?hr ?hp (fun _ hk => hk) trivial (Below.refl _ _) (Nat.le_refl _) (by simp) ?_; (case hd => rfl); (case hg => rfl); (case hr => first | (go_simp; done) | (go_simp; rfl)); (case hp => exact (Reps.c2 (show Kd.M k71 _ _ _ (⟨a1, a2⟩ : S71) [.string a1, .string a2] from (k71_mkM _ _ _ (⟨a1, a2⟩ : S71) )) (Reps.none _ _))); intro v250 w41 ho42 hb hg_ hnew_; clear hg_ hnew_; (first | rw [← Ny249.out] at ho42 | (simp only [Int.reduceToNat] at ho42; rw [← Ny249.out] at ho42)); have HO251 := Aside0.mk (Kd.R_lower (Kd.R_new' ho42 (Kd.R_lt t68_)) (below_size t32_)); replace HO244 := Aside0.mk (Kd.R_elder' t68_ (Kd.R_base ho42) hb); replace BK240 := bkN BK240 hb; replace BK241 := bkN BK241 hb; replace BK245 := bkN BK245 hb; replace HB := Aside0.mk (below_step t32_ hb); clear hb ho42; obtain ⟨Ao43, co43, eo43⟩ := Kd.R_slice HO251.out; subst eo43) | ((with_reducible refine gate_callee (f := 118) rfl ?_); refine goesL_ (some 32) rfl rfl Try.func118 (by kernel_rfl) rfl #[.slice Ao34 t242.length co34, .int .i64 t246, .slice Ao43 y249.length co43] rfl t2_ ?_; (with_reducible refine (impl_File_118.calls (fun k_ => some k_ = (.slice Ao34 t242.length co34 : Value).ownBlock) (.slice Ao34 t242.length co34) t242 t246 (fun k_ => some k_ = (.slice Ao43 y249.length co43 : Value).ownBlock) (.slice Ao43 y249.length co43) y249 t252 w _ ?side1 ?side2 ?side3 ?side4 ?side5 A27.out).mono ?_); (case side1 => repeat (first | (with_reducible first | exact HB.out | apply below_alloc | apply pw_below_drewN | apply below_drew1 | refine below_set ?_ GE240.out | refine below_set ?_ GE241.out | refine below_set ?_ GE245.out) | exact HB.out)); (case side2 => exact Kd.R_tight rfl HO244.out); (case side3 => exact fun k_ e_ => (HO244.out.1 k_ e_.symm).2); (case side4 => exact Kd.R_tight rfl HO251.out); (case side5 => exact fun k_ e_ => (HO251.out.1 k_ e_.symm).2); rintro e w44 ⟨v253, rfl, ho0, hb, hkp⟩; refine ⟨_, rfl, ?_⟩; have n0_ := Aside0.mk (blk_kept (by (with_reducible repeat (first | refine blk_drewN ?_ _ | refine blk_drew ?_ | refine blk_alloc ?_ _)); exact BK240.out) hkp (fun hs_ => Or.elim hs_ (fun e_ => (fun e_ => (Kd.R_ne HO244.out BK240.out (by decide)) e_) e_) (fun e_ => (fun e_ => (Kd.R_ne HO251.out BK240.out (by decide)) e_) e_))); have n1_ := Aside0.mk (blk_kept (by (with_reducible repeat (first | refine blk_drewN ?_ _ | refine blk_drew ?_ | refine blk_alloc ?_ _)); exact BK241.out) hkp (fun hs_ => Or.elim hs_ (fun e_ => (fun e_ => (Kd.R_ne HO244.out BK241.out (by decide)) e_) e_) (fun e_ => (fun e_ => (Kd.R_ne HO251.out BK241.out (by decide)) e_) e_))); have n2_ := Aside0.mk (blk_kept (by (with_reducible repeat (first | refine blk_drewN ?_ _ | refine blk_drew ?_ | refine blk_alloc ?_ _)); exact BK245.out) hkp (fun hs_ => Or.elim hs_ (fun e_ => (fun e_ => (Kd.R_ne HO244.out BK245.out (by decide)) e_) e_) (fun e_ => (fun e_ => (Kd.R_ne HO251.out BK245.out (by decide)) e_) e_))); have n3_ := Aside0.mk (Kd.R_mono (ok' := fun k_ => True) ho0 (fun k_ hk_ => trivial)); have n4_ := Aside0.mk (hb); clear BK240; clear BK241; clear BK245; clear HB; clear HO244; clear HO251; have BK240 := n0_; have BK241 := n1_; have BK245 := n2_; have HO254 := n3_; have HB := n4_; clear n0_ n1_ n2_ n3_ n4_; (try clear hb); (try clear hkp); (try clear ho0); obtain ⟨Ao45, co45, eo45⟩ := Kd.R_slice HO254.out; subst eo45; have hcz46_0 := bc0 BK245; have hfz46_0 := bf BK245 0; have hcz47_0 := bc0 BK241; have hfz47_0 := bf BK241 0))
    refine bodyPost_ret (results_cell_row rfl _ _ gb241 30 #[.slice Ao45 t252.length co45] (0, 0) _ rfl (by (with_reducible repeat (first | refine blk_drewN ?_ _ | refine blk_drew ?_ | refine blk_alloc ?_ _)); refine blk_put (cs := #[.slice none 0 0]) ?_ 0 _ rfl; (with_reducible repeat (first | refine blk_drewN ?_ _ | refine blk_drew ?_ | refine blk_alloc ?_ _)); refine blk_far ?_ NB241_245.out _; (with_reducible repeat (first | refine blk_drewN ?_ _ | refine blk_drew ?_ | refine blk_alloc ?_ _)); exact BK241.out) Try.underlying30 rfl (by kernel_rfl)) rfl ?_
    exact ⟨_, by first | rfl | (simp [errW_none, errW_some] <;> rfl) | (simp [*, errW_none, errW_some] <;> rfl), by (with_reducible repeat (first | apply Kd.R_alloc | apply Kd.R_drewN | apply Kd.R_drew)); exact Kd.R_mono (Kd.R_far (p := ⟨gb241, 0, none⟩) (Kd.R_far (p := ⟨gb245, 0, none⟩) (Kd.R_types (Kd.R_types HO254.out BK245.out (by decide)) BK241.out (by decide)) (fun _ hk => hk.1.2) (.slice Ao45 t252.length co45)) (fun _ hk => hk.2) (.slice Ao45 t252.length co45)) (fun _ hk => trivial), t32_⟩

/-! ### impl_File_119: function 119 -/
def impl_File_119.f (l0 : List S71) (a1 : Int) (a2 : Int) : Option (List S71) := if 0 ≤ a1 ∧ a2 = a1 + 1 ∧ a2 ≤ l0.length then some (l0.eraseIdx a1.toNat) else none
theorem sl_File.clear_run {P : Program} (w : World) (t e ty : TypeId) (z0 z1 : Value) (ht : P.underlying t = some (.slice e)) (hv : ∀ w, (zeroValue e).run P w = .ok (.agg #[z0, z1]) w) (hz0 : z0.cells = #[z0]) (hz1 : z1.cells = #[z1]) (h0 : z0.oneCell' = true) (h1 : z1.oneCell' = true) (b o c : Nat)
    (hc : ∀ j, j < 2 → (w.cell? ⟨b, o + j, none⟩).isSome = true) (hf : ∀ j, j < 2 → w.frozen? ⟨b, o + j, none⟩ = false) :
    (Builtin.clear_ #[t] ty #[.slice (some ⟨b, o, none⟩) 1 c]).run P w = .ok (.tuple #[]) (w.setCells b o [z0, z1]) := by
  have hzz : (Value.agg #[z0, z1]).cells = #[z0, z1] := by simp [Value.cells, hz0, hz1]
  have hzc : (Builtin.zeroCells (Value.agg #[z0, z1]).cells 1).toList = [z0, z1] := by
    rw [hzz]
    simp [Builtin.zeroCells, Array.range_succ]
  have hst := run_storeCells_cells (P := P) b o [z0, z1] 0 w (by simpa using hc) (by simpa using hf) (by intro v hv'; simp at hv'; rcases hv' with rfl | rfl <;> assumption)
  simp only [Nat.add_zero] at hst
  simp [Builtin.clear_, run_underlying ht, hv, hzc, hst]
set_option maxHeartbeats 8000000 in
set_option maxRecDepth 100000 in
theorem impl_File_119.calls (P0_ : Nat → Prop) (u9000_ : Value) (l0 : List S71) (a1 : Int) (a2 : Int) (r : List S71) (w0 w : World) (hB : Below w0.heap.size w0 w) (ho0 : Kd.R k71 71 w w0.heap.size P0_ u9000_ l0) (h : impl_File_119.f l0 a1 a2 = some r) :
    Calls Try.prog 119 #[u9000_, .int .i64 a1, .int .i64 a2] w fun e w' => ∃ v0_ : Value, e = .returned v0_ ∧ Kd.R k71 71 w' w0.heap.size (fun k_ => (P0_ k_ ∨ w.heap.size ≤ k_)) v0_ r ∧ Below w0.heap.size w0 w' ∧ Kept w w' (fun k_ => P0_ k_) := by
  have hu71 := Try.underlying71
  have hu28 := Try.underlying28
  unfold impl_File_119.f at h
  by_cases hc : 0 ≤ a1 ∧ a2 = a1 + 1 ∧ a2 ≤ l0.length
  rotate_left
  · rw [if_neg hc] at h
    exact absurd h (by simp)
  rw [if_pos hc] at h
  obtain rfl := Option.some.inj h
  clear h
  obtain ⟨i, rfl⟩ := Int.eq_ofNat_of_zero_le hc.1
  obtain rfl : a2 = ((i + 1 : Nat) : Int) := hc.2.1
  have hi : i < l0.length := by omega
  rw [Int.toNat_natCast]
  obtain ⟨g, cap, rfl, hg0, hg1, _⟩ := Kd.R_form ho0 (by omega)
  obtain ⟨hok, _, _, hnc, hcm, cur, hh, hcs, htk⟩ := sl_File.open_ ho0
  have HO := Aside0.mk ho0
  have HB := Aside0.mk hB
  clear ho0 hB hc
  generalize hn : l0.length = n at *
  have hmx : cap ≤ 9223372036854775807 := hcm
  have b1 : (0 : Int) ≤ ((i : Nat) : Int) := by omega
  have b2 : ((i : Nat) : Int) ≤ (cap : Int) := by omega
  have b3 : (i : Int) + 1 ≤ (n : Int) := by omega
  have b8 : (0 : Int) ≤ (i : Int) + 1 := by omega
  have b9 : (i : Int) ≤ (i : Int) + 1 := by omega
  have b10 : (i : Int) ≤ (n : Int) := by omega
  have b4 : (i : Int) + 1 ≤ (cap : Int) := by omega
  have b5 : ((i : Nat) : Int) ≤ ((i + 1 : Nat) : Int) := by omega
  have b6 : (n : Int) ≤ (cap : Int) := by omega
  have b7 : ¬ (((i : Nat) : Int) = ((i + 1 : Nat) : Int)) := by omega
  have hi71 : ∃ i0, Try.prog.info? 71 = some i0 ∧ i0.size = 2 := by
    obtain ⟨i0, h1, h2⟩ := Option.map_eq_some_iff.1 info71
    exact ⟨i0, h1, by simp at h2; exact h2.2.1⟩
  go_enter Try.func119, Try.ntmps119
  have hA : (if cap = i + 1 then (some (⟨g, 0, none⟩ : Addr)) else some ⟨g, (i + 1) * Kd.sz k71, none⟩) = if cap = i + 1 then some ⟨g, 0, none⟩ else (some (⟨g, 0, none⟩ : Addr)).map (·.add ((i + 1) * Kd.sz k71)) := by
    by_cases hcap : cap = i + 1
    · rw [if_pos hcap, if_pos hcap]
    · rw [if_neg hcap, if_neg hcap]
      rw [show Kd.sz k71 = 2 from rfl]
      simp [Addr.add]
  have hinfo : (Try.prog.info? 71).map (·.size) = some (Kd.sz k71) := by
    obtain ⟨i0, h1, h2⟩ := Option.map_eq_some_iff.1 info71
    rw [h1]
    simp only [Prod.mk.injEq] at h2
    rw [Option.map_some, h2.2.1]
    rfl
  have mixed : Try.prog.follows .mixedOrders = true := by kernel_rfl
  have HO2 := Aside0.mk (Kd.R_drew HO.out)
  have HB2 := Aside0.mk (below_drew1 HB.out)
  go_wp2_with fail
  have hAA := Aside0.mk hA
  have hII := Aside0.mk hinfo
  clear hA hinfo
  go_region_law_o (refine Kd.R_delete_step k71 (w0 := w0) w0.heap.size (m := n - (i + 1)) (c2 := cap - (i + 1)) (A := if cap = i + 1 then (some (⟨g, 0, none⟩ : Addr)) else some ⟨g, (i + 1) * Kd.sz k71, none⟩) (by simp [Region.wanted]) (.tmp 22) (.tmp 25) 28 71 rfl hu28 hII.out (by simp [Act.eval, Act.put]) (by simp only [Act.eval, Act.put]; rfl) hAA.out rfl HO2.out hi HB2.out HB2.out.size ?_; intro w1 HO1 HB1 hgr1)
  obtain ⟨m, rfl⟩ : ∃ m, n = m + 1 := ⟨n - 1, by omega⟩
  rw [Nat.add_sub_cancel] at HO1
  obtain ⟨_, _, hm1, hm2, _, cur1, hh1, hcs1, htk1⟩ := sl_File.open_ HO1
  have hcl : ∀ ty, (Builtin.clear_ #[28] ty #[.slice (some ⟨g, m * 2, none⟩) 1 (cap - m)]).run Try.prog w1 = .ok (.tuple #[]) (w1.setCells g (m * 2) [.string ⟨#[]⟩, .string ⟨#[]⟩]) := fun ty =>
    sl_File.clear_run w1 28 71 ty _ _ hu28 (fun w => by kernel_rfl) rfl rfl rfl rfl g (m * 2) (cap - m) (fun j hj => by
      rw [cell_of_row w1 g _ cur1 71 (0, 0) hh1, Array.getElem?_eq_getElem (by omega)]
      rfl) (fun j _ => blk_frozen hh1 _)
  obtain ⟨cur2, hh2, hcs2, htk2⟩ := setCells_row (e := 71) [.string ⟨#[]⟩, .string ⟨#[]⟩] (m * 2) w1 cur1 hh1 (by simp; omega)
  obtain ⟨s1, s2, s3, s4⟩ := setCells_same g [.string ⟨#[]⟩, .string ⟨#[]⟩] (m * 2) w1
  have hfar : ∀ k', k' ≠ g → (w1.setCells g (m * 2) [.string ⟨#[]⟩, .string ⟨#[]⟩]).heap[k']? = w1.heap[k']? := fun k' hk' => setCells_far _ _ k' hk'
  have hgr2 : w1.grownBy (w1.setCells g (m * 2) [.string ⟨#[]⟩, .string ⟨#[]⟩]) (some g) := ⟨s1, s2, s3, by rw [s4]; exact Nat.le_refl _, fun k' _ hk' => hfar k' (fun he => hk' (by rw [he]))⟩
  generalize hw2 : w1.setCells g (m * 2) [.string ⟨#[]⟩, .string ⟨#[]⟩] = w2 at *
  have R2 : Aside0 (Kd.R k71 71 w2 w0.heap.size (fun k_ => (P0_ k_ ∨ w.heap.size ≤ k_)) (.slice (some ⟨g, 0, none⟩) m cap) (l0.eraseIdx i)) := Aside0.mk <| by
    refine sl_File.close_ (.inl hok) hg0 hm1 hm2 hcm hh2 (by rw [hcs2, hcs1]) ?_
    rw [htk2, List.append_assoc, List.take_left' (by rw [List.length_take]; simp; omega), htk1]
  have B2 : Aside0 (Below w0.heap.size w0 w2) := Aside0.mk (HB1.grown hgr2 HB1.size (fun k hk => by injection hk with hk; subst hk; exact hg0))
  have K2 : Aside0 (Kept w w2 (fun k_ => P0_ k_)) := Aside0.mk ⟨Nat.le_trans hgr1.size hgr2.size, fun k hk hP => by
    have hkg : k ≠ g := fun e => hP (e ▸ hok)
    rw [hfar k hkg]
    exact hgr1.block k hk (fun e => hkg (by injection e))⟩
  have c1 : ¬ (cap = m) := by omega
  have c2 : (0 : Int) ≤ (m : Int) := by omega
  have c3 : (m : Int) ≤ (m : Int) + 1 := by omega
  have c4 : (m : Int) + 1 ≤ (cap : Int) := by omega
  clear HO1 HB1 hgr1 hgr2 hh1 hh2 htk1 htk2 hfar s1 s2 s3 s4 HO2 HB2 HO HB hh htk hm1 hm2 hcs1 hcs2 hn hcs hi hnc hcm hw2
  by_cases hcap : cap = i + 1
  · subst hcap
    go_wp2
    go_ret
    exact ⟨_, rfl, R2.out, B2.out, K2.out⟩
  · go_wp2
    go_ret
    exact ⟨_, rfl, R2.out, B2.out, K2.out⟩

/-! ### impl_without: function 90 -/
def impl_without.f (l0_0 : List (S71)) (a1 : ByteArray) : Option ((List (S71))) := (impl_copyDisk.f l0_0).bind fun t257 => ((impl_fileNo.f l0_0 a1).bind fun bt261 => (if bt261.2 = true then ((impl_File_119.f t257 bt261.1 (wrap64 (bt261.1 + 1))).bind fun t263 => (some t263)) else (some t257)))
set_option maxHeartbeats 8000000 in
set_option maxRecDepth 100000 in
theorem impl_without.calls (A0_0 : Option Addr) (c0_0 : Nat) (l0_0 : List (S71)) (a1 : ByteArray) (r : List (S71)) (w : World) (hr0_0 : Kd.C k71 w A0_0 l0_0.length l0_0) (hc0_0 : l0_0.length ≤ c0_0) (h : impl_without.f l0_0 a1 = some r) :
    Calls Try.prog 90 #[.agg #[.slice A0_0 l0_0.length c0_0], .string a1] w fun e w' => ∃ v0_ : Value, e = .returned (.agg #[v0_]) ∧ Kd.R k71 71 w' w.heap.size (fun _ => True) v0_ r ∧ Below w.heap.size w w' := by
  have hu30 := Try.underlying30
  have HR0_0 := Aside0.mk hr0_0
  have HC0_0 := Aside0.mk hc0_0
  clear hr0_0 hc0_0
  have HB := Aside0.mk (Below.refl w.heap.size w)
  have H : ((impl_copyDisk.f l0_0).bind fun t257 => ((impl_fileNo.f l0_0 a1).bind fun bt261 => (if bt261.2 = true then ((impl_File_119.f t257 bt261.1 (wrap64 (bt261.1 + 1))).bind fun t263 => (some t263)) else (some t257)))) = some r := h
  clear h
  replace H := Option.bind_eq_some_iff.mp H
  obtain ⟨t257, A30, H⟩ := H
  replace H : ((impl_fileNo.f l0_0 a1).bind fun bt261 => (if bt261.2 = true then ((impl_File_119.f t257 bt261.1 (wrap64 (bt261.1 + 1))).bind fun t263 => (some t263)) else (some t257))) = some r := H
  have A3 := Aside0.mk A30
  clear A30
  replace H := Option.bind_eq_some_iff.mp H
  obtain ⟨⟨t261, t262⟩, A40, H⟩ := H
  replace H : (if t262 = true then ((impl_File_119.f t257 t261 (wrap64 (t261 + 1))).bind fun t263 => (some t263)) else (some t257)) = some r := H
  have A4 := Aside0.mk A40
  clear A40
  by_cases c5 : t262 = true
  · subst c5
    have H1 : ((impl_File_119.f t257 t261 (wrap64 (t261 + 1))).bind fun t263 => (some t263)) = some r := by rw [if_pos rfl] at H; exact H
    clear H
    have H := H1
    clear H1
    replace H := Option.bind_eq_some_iff.mp H
    obtain ⟨t263, A60, H⟩ := H
    replace H : (some t263) = some r := H
    have A6 := Aside0.mk A60
    clear A60
    obtain rfl := Option.some.inj H
    go_enter Try.func90, Try.ntmps90
    go_wp2_with (first | ((with_reducible refine gate_dst (N := 2) rfl ?_); refine boxE (N := 2) (cs := #[.slice A0_0 l0_0.length c0_0]) (t := 30) (h := ?_); intro gb255 hg w7 hbox hb; have BK255 := Aside0.mk (hbox); have GW255 := Aside0.mk ((t4_ : w.heap.size ≤ gb255)); have GE255 := Aside0.mk ((t4_ : w.heap.size ≤ gb255)); replace HB := Aside0.mk (below_step t0_ hb); clear hb hbox hg) | ((with_reducible refine gate_dst (N := 4) rfl ?_); refine boxE (N := 4) (cs := #[.slice none 0 0]) (t := 30) (h := ?_); intro gb256 hg w8 hbox hb; have BK256 := Aside0.mk (hbox); have GW256 := Aside0.mk ((t61_ : w.heap.size ≤ gb256)); have GE256 := Aside0.mk ((t61_ : w.heap.size ≤ gb256)); replace HB := Aside0.mk (below_step t56_ hb); have NB255_256 := nbL BK255 hg; have NB256_255 := nbG BK255 hg; replace BK255 := bkN BK255 hb; clear hb hbox hg; have hnb9 := NB255_256.out; have hnc9 := NB256_255.out; have hcz10_0 := bc0 BK255; have hfz10_0 := bf BK255 0) | ((with_reducible refine gate_callee (f := 84) rfl ?_); refine goesL_ (some 9) rfl rfl Try.func84 (by kernel_rfl) rfl #[.agg #[.slice A0_0 l0_0.length c0_0]] rfl t2_ ?_; (with_reducible refine (impl_copyDisk.calls _ _ l0_0 t257 _ ?side1 ?side2 A3.out).mono ?_); (case side1 => exact cB HR0_0 HB); (case side2 => exact HC0_0.out); rintro e w11 ⟨v258, rfl, ho0, hb⟩; refine ⟨_, rfl, ?_⟩; have HO259 := Aside0.mk (Kd.R_lower ho0 (below_size t30_)); replace BK255 := bkN BK255 hb; replace BK256 := bkN BK256 hb; replace HB := Aside0.mk (below_step t30_ hb); (try clear hb); (try clear hb2); (try clear hk); (try clear hi); (try clear ho0)) | ((with_reducible refine gate_dst (N := 5) rfl ?_); refine boxE (N := 5) (cs := #[.slice none 0 0]) (t := 30) (h := ?_); intro gb260 hg w12 hbox hb; replace HO259 := Aside0.mk (Kd.R_below (by (with_reducible repeat (first | apply Kd.R_alloc | apply Kd.R_drewN | apply Kd.R_drew)); exact HO259.out) hb); have BK260 := Aside0.mk (hbox); have GW260 := Aside0.mk ((t59_ : w.heap.size ≤ gb260)); have GE260 := Aside0.mk ((t59_ : w.heap.size ≤ gb260)); replace HB := Aside0.mk (below_step t30_ hb); have NB255_260 := nbL BK255 hg; have NB260_255 := nbG BK255 hg; replace BK255 := bkN BK255 hb; have NB256_260 := nbL BK256 hg; have NB260_256 := nbG BK256 hg; replace BK256 := bkN BK256 hb; clear hb hbox hg; obtain ⟨Ao13, co13, eo13⟩ := Kd.R_slice HO259.out; subst eo13; have hnb14 := NB260_255.out; have hnc14 := NB255_260.out; have hnb15 := NB260_256.out; have hnc15 := NB256_260.out; have hcz16_0 := bc0 BK260; have hfz16_0 := bf BK260 0; have hcz17_0 := bc0 BK255; have hfz17_0 := bf BK255 0) | ((with_reducible refine gate_callee (f := 85) rfl ?_); refine goesL_ (some 13) rfl rfl Try.func85 (by kernel_rfl) rfl #[.agg #[.slice A0_0 l0_0.length c0_0], .string a1] rfl t2_ ?_; (with_reducible refine (impl_fileNo.calls _ _ l0_0 a1 t261 true _ ?side1 ?side2 A4.out).mono ?_); (case side1 => exact Kd.C_below HR0_0.out t44_); (case side2 => exact HC0_0.out); rintro e w18 ⟨rfl, hb⟩; refine ⟨_, rfl, ?_⟩; replace HO259 := Aside0.mk (Kd.R_below (by (with_reducible repeat (first | apply Kd.R_alloc | apply Kd.R_drewN | apply Kd.R_drew)); exact (Kd.R_mono (Kd.R_far (p := ⟨gb260, 0, none⟩) (Kd.R_types HO259.out BK260.out (by decide)) (fun _ hk => hk.2) (.slice Ao13 t257.length co13)) (fun _ h_ => h_.1))) hb); replace BK255 := bkF BK255 NB255_260 hb; replace BK256 := bkF BK256 NB256_260 hb; replace BK260 := Aside0.mk (blk_below (g := gb260) (o := .cells #[.slice Ao13 t257.length co13] 30 (0, 0)) (by (with_reducible repeat (first | refine blk_drewN ?_ _ | refine blk_drew ?_ | refine blk_alloc ?_ _)); refine blk_put (cs := #[.slice none 0 0]) ?_ 0 _ rfl; (with_reducible repeat (first | refine blk_drewN ?_ _ | refine blk_drew ?_ | refine blk_alloc ?_ _)); exact BK260.out) hb); replace HB := Aside0.mk (below_step t44_ hb); (try clear hb); (try clear hb2); (try clear hk); (try clear hi); have hcz19_0 := bc0 BK260; have hfz19_0 := bf BK260 0) | ((with_reducible refine gate_callee (f := 119) rfl ?_); refine goesL_ (some 22) rfl rfl Try.func119 (by kernel_rfl) rfl #[.slice Ao13 t257.length co13, .int .i64 t261, .int .i64 (wrap64 (t261 + 1))] rfl t2_ ?_; (with_reducible refine (impl_File_119.calls (fun k_ => some k_ = (.slice Ao13 t257.length co13 : Value).ownBlock) (.slice Ao13 t257.length co13) t257 t261 (wrap64 (t261 + 1)) t263 w _ ?side1 ?side2 A6.out).mono ?_); (case side1 => repeat (first | (with_reducible first | exact HB.out | apply below_alloc | apply pw_below_drewN | apply below_drew1 | refine below_set ?_ GE255.out | refine below_set ?_ GE256.out | refine below_set ?_ GE260.out) | exact HB.out)); (case side2 => exact Kd.R_tight rfl HO259.out); rintro e w20 ⟨v264, rfl, ho0, hb, hkp⟩; refine ⟨_, rfl, ?_⟩; have n0_ := Aside0.mk (blk_kept (by (with_reducible repeat (first | refine blk_drewN ?_ _ | refine blk_drew ?_ | refine blk_alloc ?_ _)); exact BK255.out) hkp (fun hs_ => (fun e_ => (Kd.R_ne HO259.out BK255.out (by decide)) e_) hs_)); have n1_ := Aside0.mk (blk_kept (by (with_reducible repeat (first | refine blk_drewN ?_ _ | refine blk_drew ?_ | refine blk_alloc ?_ _)); exact BK256.out) hkp (fun hs_ => (fun e_ => (Kd.R_ne HO259.out BK256.out (by decide)) e_) hs_)); have n2_ := Aside0.mk (blk_kept (by (with_reducible repeat (first | refine blk_drewN ?_ _ | refine blk_drew ?_ | refine blk_alloc ?_ _)); exact BK260.out) hkp (fun hs_ => (fun e_ => (Kd.R_ne HO259.out BK260.out (by decide)) e_) hs_)); have n3_ := Aside0.mk (Kd.R_mono (ok' := fun k_ => True) ho0 (fun k_ hk_ => trivial)); have n4_ := Aside0.mk (hb); clear BK255; clear BK256; clear BK260; clear HB; clear HO259; have BK255 := n0_; have BK256 := n1_; have BK260 := n2_; have HO265 := n3_; have HB := n4_; clear n0_ n1_ n2_ n3_ n4_; (try clear hb); (try clear hkp); (try clear ho0); obtain ⟨Ao21, co21, eo21⟩ := Kd.R_slice HO265.out; subst eo21; have hcz22_0 := bc0 BK260; have hfz22_0 := bf BK260 0; have hcz23_0 := bc0 BK256; have hfz23_0 := bf BK256 0))
    refine bodyPost_ret (results_cell_row rfl _ _ gb256 30 #[.slice Ao21 t263.length co21] (0, 0) _ rfl (by (with_reducible repeat (first | refine blk_drewN ?_ _ | refine blk_drew ?_ | refine blk_alloc ?_ _)); refine blk_put (cs := #[.slice none 0 0]) ?_ 0 _ rfl; (with_reducible repeat (first | refine blk_drewN ?_ _ | refine blk_drew ?_ | refine blk_alloc ?_ _)); refine blk_far ?_ NB256_260.out _; (with_reducible repeat (first | refine blk_drewN ?_ _ | refine blk_drew ?_ | refine blk_alloc ?_ _)); exact BK256.out) Try.underlying30 rfl (by kernel_rfl)) rfl ?_
    exact ⟨_, by first | rfl | (simp [errW_none, errW_some] <;> rfl) | (simp [*, errW_none, errW_some] <;> rfl), by (with_reducible repeat (first | apply Kd.R_alloc | apply Kd.R_drewN | apply Kd.R_drew)); exact Kd.R_mono (Kd.R_far (p := ⟨gb256, 0, none⟩) (Kd.R_far (p := ⟨gb260, 0, none⟩) (Kd.R_types (Kd.R_types HO265.out BK260.out (by decide)) BK256.out (by decide)) (fun _ hk => hk.1.2) (.slice Ao21 t263.length co21)) (fun _ hk => hk.2) (.slice Ao21 t263.length co21)) (fun _ hk => trivial), t44_⟩
  · replace c5 := Bool.eq_false_iff.mpr c5
    subst c5
    have H1 : (some t257) = some r := by rw [if_neg (show ¬ (false = true) by decide)] at H; exact H
    clear H
    have H := H1
    clear H1
    obtain rfl := Option.some.inj H
    go_enter Try.func90, Try.ntmps90
    go_wp2_with (first | ((with_reducible refine gate_dst (N := 2) rfl ?_); refine boxE (N := 2) (cs := #[.slice A0_0 l0_0.length c0_0]) (t := 30) (h := ?_); intro gb255 hg w24 hbox hb; have BK255 := Aside0.mk (hbox); have GW255 := Aside0.mk ((t4_ : w.heap.size ≤ gb255)); have GE255 := Aside0.mk ((t4_ : w.heap.size ≤ gb255)); replace HB := Aside0.mk (below_step t0_ hb); clear hb hbox hg) | ((with_reducible refine gate_dst (N := 4) rfl ?_); refine boxE (N := 4) (cs := #[.slice none 0 0]) (t := 30) (h := ?_); intro gb256 hg w25 hbox hb; have BK256 := Aside0.mk (hbox); have GW256 := Aside0.mk ((t61_ : w.heap.size ≤ gb256)); have GE256 := Aside0.mk ((t61_ : w.heap.size ≤ gb256)); replace HB := Aside0.mk (below_step t56_ hb); have NB255_256 := nbL BK255 hg; have NB256_255 := nbG BK255 hg; replace BK255 := bkN BK255 hb; clear hb hbox hg; have hnb26 := NB255_256.out; have hnc26 := NB256_255.out; have hcz27_0 := bc0 BK255; have hfz27_0 := bf BK255 0) | ((with_reducible refine gate_callee (f := 84) rfl ?_); refine goesL_ (some 9) rfl rfl Try.func84 (by kernel_rfl) rfl #[.agg #[.slice A0_0 l0_0.length c0_0]] rfl t2_ ?_; (with_reducible refine (impl_copyDisk.calls _ _ l0_0 t257 _ ?side1 ?side2 A3.out).mono ?_); (case side1 => exact cB HR0_0 HB); (case side2 => exact HC0_0.out); rintro e w28 ⟨v258, rfl, ho0, hb⟩; refine ⟨_, rfl, ?_⟩; have HO259 := Aside0.mk (Kd.R_lower ho0 (below_size t30_)); replace BK255 := bkN BK255 hb; replace BK256 := bkN BK256 hb; replace HB := Aside0.mk (below_step t30_ hb); (try clear hb); (try clear hb2); (try clear hk); (try clear hi); (try clear ho0)) | ((with_reducible refine gate_dst (N := 5) rfl ?_); refine boxE (N := 5) (cs := #[.slice none 0 0]) (t := 30) (h := ?_); intro gb260 hg w29 hbox hb; replace HO259 := Aside0.mk (Kd.R_below (by (with_reducible repeat (first | apply Kd.R_alloc | apply Kd.R_drewN | apply Kd.R_drew)); exact HO259.out) hb); have BK260 := Aside0.mk (hbox); have GW260 := Aside0.mk ((t59_ : w.heap.size ≤ gb260)); have GE260 := Aside0.mk ((t59_ : w.heap.size ≤ gb260)); replace HB := Aside0.mk (below_step t30_ hb); have NB255_260 := nbL BK255 hg; have NB260_255 := nbG BK255 hg; replace BK255 := bkN BK255 hb; have NB256_260 := nbL BK256 hg; have NB260_256 := nbG BK256 hg; replace BK256 := bkN BK256 hb; clear hb hbox hg; obtain ⟨Ao30, co30, eo30⟩ := Kd.R_slice HO259.out; subst eo30; have hnb31 := NB260_255.out; have hnc31 := NB255_260.out; have hnb32 := NB260_256.out; have hnc32 := NB256_260.out; have hcz33_0 := bc0 BK260; have hfz33_0 := bf BK260 0; have hcz34_0 := bc0 BK255; have hfz34_0 := bf BK255 0) | ((with_reducible refine gate_callee (f := 85) rfl ?_); refine goesL_ (some 13) rfl rfl Try.func85 (by kernel_rfl) rfl #[.agg #[.slice A0_0 l0_0.length c0_0], .string a1] rfl t2_ ?_; (with_reducible refine (impl_fileNo.calls _ _ l0_0 a1 t261 false _ ?side1 ?side2 A4.out).mono ?_); (case side1 => exact Kd.C_below HR0_0.out t44_); (case side2 => exact HC0_0.out); rintro e w35 ⟨rfl, hb⟩; refine ⟨_, rfl, ?_⟩; replace HO259 := Aside0.mk (Kd.R_below (by (with_reducible repeat (first | apply Kd.R_alloc | apply Kd.R_drewN | apply Kd.R_drew)); exact (Kd.R_mono (Kd.R_far (p := ⟨gb260, 0, none⟩) (Kd.R_types HO259.out BK260.out (by decide)) (fun _ hk => hk.2) (.slice Ao30 t257.length co30)) (fun _ h_ => h_.1))) hb); replace BK255 := bkF BK255 NB255_260 hb; replace BK256 := bkF BK256 NB256_260 hb; replace BK260 := Aside0.mk (blk_below (g := gb260) (o := .cells #[.slice Ao30 t257.length co30] 30 (0, 0)) (by (with_reducible repeat (first | refine blk_drewN ?_ _ | refine blk_drew ?_ | refine blk_alloc ?_ _)); refine blk_put (cs := #[.slice none 0 0]) ?_ 0 _ rfl; (with_reducible repeat (first | refine blk_drewN ?_ _ | refine blk_drew ?_ | refine blk_alloc ?_ _)); exact BK260.out) hb); replace HB := Aside0.mk (below_step t44_ hb); (try clear hb); (try clear hb2); (try clear hk); (try clear hi); have hcz36_0 := bc0 BK260; have hfz36_0 := bf BK260 0; have hcz37_0 := bc0 BK256; have hfz37_0 := bf BK256 0))
    refine bodyPost_ret (results_cell_row rfl _ _ gb256 30 #[.slice Ao30 t257.length co30] (0, 0) _ rfl (by (with_reducible repeat (first | refine blk_drewN ?_ _ | refine blk_drew ?_ | refine blk_alloc ?_ _)); refine blk_put (cs := #[.slice none 0 0]) ?_ 0 _ rfl; (with_reducible repeat (first | refine blk_drewN ?_ _ | refine blk_drew ?_ | refine blk_alloc ?_ _)); exact BK256.out) Try.underlying30 rfl (by kernel_rfl)) rfl ?_
    exact ⟨_, by first | rfl | (simp [errW_none, errW_some] <;> rfl) | (simp [*, errW_none, errW_some] <;> rfl), by (with_reducible repeat (first | apply Kd.R_alloc | apply Kd.R_drewN | apply Kd.R_drew)); exact Kd.R_mono (Kd.R_far (p := ⟨gb256, 0, none⟩) (Kd.R_types HO259.out BK256.out (by decide)) (fun _ hk => hk.2) (.slice Ao30 t257.length co30)) (fun _ hk => trivial), t44_⟩

end Go.Proofs.Ytpjhbhjmaggheaa.QFnExactPutRaw
