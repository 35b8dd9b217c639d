-- By a program of this session, over the kit's print.
import Derived.Test.YtpnncgfmihjlkaaProg
import Derived.Below
import Derived.Deep.Draws
import Derived.Deep.AppendLies
import Derived.Maps.AppendAt
import Derived.OwnWalk
import Derived.Laws.BytesArg
import Derived.Laws.MakeOwn
import Derived.Laws.OwnMore
import Derived.Deep.OwnRows
import Derived.Tactics
import Derived.Lib.ConvBytes
import Derived.Laws.Slices
import Derived.WalkKit
import Derived.KernelRfl
import Derived.RowKit3
import Derived.Deep.LoopGhost
import Derived.Deep.QuietTactic
import Derived.BigQuiet
import Derived.WideLaws
import Derived.Deep.DeepCutAuto
import Derived.Deep.CutBlock
import Derived.Deep.RegionHeld3
import Derived.Laws.Rows
import Derived.Lib.AppendStr
import Derived.ArgAppend
import Derived.Laws.IdiomCopy
import Derived.OrdersHeld
import Derived.Laws.BitsLemmas
import Derived.RowKit
import Derived.Laws.Cover1
import Derived.Sort.Walk0
import Derived.Lib.Strings
import Derived.Lib.Slices
import Derived.Lib.Walk
import Derived.Lib.Bytealg
import Derived.Lib.SliceRun
import Derived.Deep.RegionLaw
import Derived.Shelf.RegionOpenPlain
import Derived.Shelf.Spec.SlicesInsertGrow
import Derived.Shelf.SlGeneric
import Derived.Test.YtpnncgfmihjlkaaVFnManifests
namespace Go.Proofs.Ytpnncgfmihjlkaa.QFnManifests
open Go.RowKit Go.Proofs.YtpnncgfmihjlkaaW.PrintWords Go.Proofs.YtpnncgfmihjlkaaW.PrintLast Go.Proofs.YtpnncgfmihjlkaaW.PrintMore
attribute [local go_sem] max2_int min2_int max_two min_two max_three min_three max_four min_four   -- for this text's walks alone
set_option linter.unusedVariables false
set_option linter.unusedSimpArgs false



def errW : Option Int → Value
 | none => .nilIface
 | some c => .iface 0 (.int .i64 c)
theorem errW_none : errW none = .nilIface := rfl
theorem errW_some (c : Int) : errW (some c) = .iface 0 (.int .i64 c) := rfl

theorem info3 : (Try.prog.info? 3).map (fun i => (i.zero, i.size, i.bytes)) = some (some (.int .i64 0), 1, 8) := by kernel_rfl
theorem info5 : (Try.prog.info? 5).map (fun i => (i.zero, i.size, i.bytes)) = some (some (.int .u8 0), 1, 1) := by kernel_rfl
theorem info25 : (Try.prog.info? 25).map (fun i => (i.zero, i.size, i.bytes)) = some (some (.slice none 0 0), 1, 24) := by kernel_rfl
-- the values' own types
def rd_L2 (xs : List (List Int)) (i : Int) : (List Int) := xs.getD i.toNat ([] : List Int)
theorem at_L2 {w : World} {A : Option Addr} {n : Nat} {xs : List (List Int)} (h : Kd.C (Kd.slice 3 (Kd.int .i64)) w A n xs) (i : Int) (h0 : 0 ≤ i) (h1 : i < n) : ∃ ad A0 c0, A = some ad ∧ w.cell? (ad.add i.toNat) = some (.slice A0 (rd_L2 xs i).length c0) ∧ (rd_L2 xs i).length ≤ c0 ∧ (Kd.int .i64).C w A0 (rd_L2 xs i).length (rd_L2 xs i) := by
 obtain ⟨ad, c, e, _, hK, hc0⟩ := Kd.C_get h ([] : List Int) i h0 h1; have hc : ∀ j u, c[j]? = some u → w.cell? (ad.add (i.toNat * 1 + j)) = some u := hc0; obtain ⟨A0, c0, rfl, l0, g0⟩ := hK; exact ⟨ad, A0, c0, e, by have hq := hc 0 _ rfl; rwa [Nat.mul_one, Nat.add_zero] at hq, l0, g0⟩

theorem bl_gtr_t {x y : List UInt8} (h : Op.bytesLess y x = true) : Op.bytesLess x y = false ∧ (x == y) = false := by
 rw [bytesLess_eq, decide_eq_true_eq] at h; exact ⟨by rw [bytesLess_eq, decide_eq_false_iff_not]; exact fun h2 => List.lt_irrefl _ (List.lt_trans h h2), by rw [beq_eq_false_iff_ne]; rintro rfl; exact List.lt_irrefl _ h⟩
theorem bl_gtr_f {x y : List UInt8} (h : Op.bytesLess y x = false) : (Op.bytesLess x y || x == y) = true ∧ (!Op.bytesLess x y && !(x == y)) = false := by
 rw [bytesLess_eq, decide_eq_false_iff_not] at h; rw [bytesLess_eq]; by_cases e : x = y
 · subst e; simp
 · have : x < y := Classical.byContradiction fun h2 => e (List.le_antisymm (List.not_lt.1 h) (List.not_lt.1 h2))
   simp [this]
theorem bl_gtr_e (x y : List UInt8) : (!Op.bytesLess x y && !(x == y)) = Op.bytesLess y x := by
 by_cases h : Op.bytesLess y x = true
 · have := bl_gtr_t h; rw [this.1, this.2, h]; rfl
 · have h2 := Bool.eq_false_iff.2 h; rw [(bl_gtr_f h2).2, h2]
theorem bkN {w W w' : World} {g : Nat} {o : Obj} (B : Aside0 (w.heap[g]? = some o)) (hb : Below W.heap.size W w') (s : w.heap[g]? = some o → W.heap[g]? = some o := by intro BK_; (with_reducible repeat (first | refine blk_drewN ?_ _ | refine blk_drew ?_ | refine blk_alloc ?_ _)); exact BK_) : Aside0 (w'.heap[g]? = some o) := ⟨blk_below (s B.out) hb⟩
theorem bkF {w W w' : World} {g g' : Nat} {o : Obj} (B : Aside0 (w.heap[g]? = some o)) (n : Aside0 (g ≠ g')) (hb : Below W.heap.size W w') (s : g ≠ g' → w.heap[g]? = some o → W.heap[g]? = some o := by intro NB_ BK_; (with_reducible repeat (first | refine blk_drewN ?_ _ | refine blk_drew ?_ | refine blk_alloc ?_ _)); refine blk_far ?_ NB_ _; (with_reducible repeat (first | refine blk_drewN ?_ _ | refine blk_drew ?_ | refine blk_alloc ?_ _)); exact BK_) : Aside0 (w'.heap[g]? = some o) := ⟨blk_below (s n.out B.out) hb⟩
theorem nbL {w W : World} {g g' : Nat} {o : Obj} (B : Aside0 (w.heap[g]? = some o)) (hg : g' = W.heap.size) (s : w.heap[g]? = some o → W.heap[g]? = some o := by intro BK_; (with_reducible repeat (first | refine blk_drewN ?_ _ | refine blk_drew ?_ | refine blk_alloc ?_ _)); exact BK_) : Aside0 (g ≠ g') := ⟨by rw [hg]; exact Nat.ne_of_lt (blk_lt (s B.out))⟩
theorem nbG {w W : World} {g g' : Nat} {o : Obj} (B : Aside0 (w.heap[g]? = some o)) (hg : g' = W.heap.size) (s : w.heap[g]? = some o → W.heap[g]? = some o := by intro BK_; (with_reducible repeat (first | refine blk_drewN ?_ _ | refine blk_drew ?_ | refine blk_alloc ?_ _)); exact BK_) : Aside0 (g' ≠ g) := ⟨by rw [hg]; exact Nat.ne_of_gt (blk_lt (s B.out))⟩
theorem bc0 {w : World} {g t : Nat} {v0 : Value} {l : List Value} (B : Aside0 (w.heap[g]? = some (.cells (List.toArray (v0 :: l)) t (0, 0)))) : w.cell? ⟨g, 0, none⟩ = some v0 := (blk_cell B.out 0).trans rfl
theorem bc1 {w : World} {g t : Nat} {v0 v1 : Value} {l : List Value} (B : Aside0 (w.heap[g]? = some (.cells (List.toArray (v0 :: v1 :: l)) t (0, 0)))) : w.cell? ⟨g, 1, none⟩ = some v1 := (blk_cell B.out 1).trans rfl
theorem bc2 {w : World} {g t : Nat} {v0 v1 v2 : Value} {l : List Value} (B : Aside0 (w.heap[g]? = some (.cells (List.toArray (v0 :: v1 :: v2 :: l)) t (0, 0)))) : w.cell? ⟨g, 2, none⟩ = some v2 := (blk_cell B.out 2).trans rfl
theorem bc3 {w : World} {g t : Nat} {v0 v1 v2 v3 : Value} {l : List Value} (B : Aside0 (w.heap[g]? = some (.cells (List.toArray (v0 :: v1 :: v2 :: v3 :: l)) t (0, 0)))) : w.cell? ⟨g, 3, none⟩ = some v3 := (blk_cell B.out 3).trans rfl
theorem bc4 {w : World} {g t : Nat} {v0 v1 v2 v3 v4 : Value} {l : List Value} (B : Aside0 (w.heap[g]? = some (.cells (List.toArray (v0 :: v1 :: v2 :: v3 :: v4 :: l)) t (0, 0)))) : w.cell? ⟨g, 4, none⟩ = some v4 := (blk_cell B.out 4).trans rfl
theorem bf {w : World} {g t : Nat} {cs : Array Value} (B : Aside0 (w.heap[g]? = some (.cells cs t (0, 0)))) (i : Nat) : w.frozen? ⟨g, i, none⟩ = false := blk_frozen B.out i
theorem boxE {P : Program} {ops : Array Oper} {rest : List Oper} {o : Oper} {a : Act} {Q : Exit → Act → World → Prop} {W : World} {N : Tmp} {cs : Array Value} {t : TypeId} (hgd : o.guard = none := by rfl) (hd : o.dst = some N := by rfl)
 (hrun : (execOp a.eval o).run P W = .ok (.value (.pointer (some ⟨W.heap.size, 0, none⟩))) (W.alloc (.cells cs t (0, 0))) := by first | (go_simp; done) | (go_simp; rfl))
 (h : ∀ g, g = W.heap.size → ∀ w1, w1.heap[g]? = some (.cells cs t (0, 0)) → Below W.heap.size W w1 → wpList P ops Q rest (a.put o.dst (.pointer (some ⟨g, 0, none⟩))) w1) : wpList P ops Q (o :: rest) a W := box_event hgd hd hrun h
theorem cB {α : Type} {d : Kd α} {w W W' : World} {A : Option Addr} {n : Nat} {xs : List α} (R : Aside0 (Kd.C d w A n xs)) (B : Aside0 (Below w.heap.size w W)) (s : Kd.C d W A n xs → Kd.C d W' A n xs := by intro C_; repeat (first | exact C_ | (with_reducible refine Kd.C_alloc ?_ _) | (with_reducible refine Kd.C_drewN ?_ _) | (with_reducible refine Kd.C_drew ?_))) : Kd.C d W' A n xs := s (Kd.C_below R.out B.out)
theorem relabel {P : Program} {ops : Array Oper} {rest : List Oper} {a : Act} {Q : Exit → Act → World → Prop} {W : World} (F : World → Prop) (hF : F W) (h : ∀ wz, F wz → wpList P ops Q rest a wz) : wpList P ops Q rest a W := h W hF
theorem rF {α : Type} {d : Kd α} {e base : Nat} {ok : Nat → Prop} {w W' : World} {v : Value} {xs : List α} {g t : Nat} {cells : Array Value} (H : Aside0 (d.R e w base ok v xs)) (B : Aside0 (w.heap[g]? = some (.cells cells t (0, 0)))) (ht : ∀ q, q ∈ e :: d.E → q ≠ t := by decide) (s : (∀ u, d.R e (w.setCell ⟨g, 0, none⟩ u) base ok v xs) → d.R e W' base ok v xs := by intro S_; (with_reducible repeat (first | apply Kd.R_alloc | apply Kd.R_drewN | apply Kd.R_drew)); exact S_ _) : d.R e W' base ok v xs := s fun u => Kd.R_mono (Kd.R_far (p := ⟨g, 0, none⟩) (Kd.R_types H.out B.out ht) (fun _ hk => hk.2) u) (fun _ h_ => h_.1)
theorem bS {w W w2 : World} (h : Below w.heap.size w W) (k : Below W.heap.size W w2) : Aside0 (Below w.heap.size w w2) := ⟨below_step h k⟩
theorem cW {w W : World} {a : Addr} {v : Value} (B : Aside0 (Below w.heap.size w W)) (h : w.cell? a = some v) : W.cell? a = some v := (B.out.cell (World.block_lt_of_cell? w _ h)).trans h
theorem ps1 {α : Type} (l : List α) (i : Nat) (a : α) : l.toArray.setIfInBounds i a = (l.set i a).toArray := List.setIfInBounds_toArray ..
theorem ps2 {α : Type} (x : α) (l : List α) (a : α) : (x :: l).set 0 a = a :: l := rfl
theorem ps3 {α : Type} (x : α) (l : List α) (n : Nat) (a : α) : (x :: l).set (n + 1) a = x :: l.set n a := rfl
theorem zN {w W : World} {g : Nat} {o : Obj} (B : Aside0 (w.heap[g]? = some o)) (s : w.heap[g]? = some o → W.heap[g]? = some o := by intro BK_; (with_reducible repeat (first | refine blk_drewN ?_ _ | refine blk_drew ?_ | refine blk_alloc ?_ _)); exact BK_) : W.heap[g]? = some o := s B.out
theorem zF1 {w W : World} {g g1 t : Nat} {cs : Array Value} (B : Aside0 (w.heap[g]? = some (.cells cs t (0, 0)))) (n1 : Aside0 (g ≠ g1)) (s : w.heap[g]? = some (.cells cs t (0, 0)) → g ≠ g1 → W.heap[g]? = some (.cells cs t (0, 0)) := by intro BK_ N1_; (with_reducible repeat (first | refine blk_drewN ?_ _ | refine blk_drew ?_ | refine blk_alloc ?_ _)); refine blk_far ?_ N1_ _; (with_reducible repeat (first | refine blk_drewN ?_ _ | refine blk_drew ?_ | refine blk_alloc ?_ _)); exact BK_) : W.heap[g]? = some (.cells cs t (0, 0)) := s B.out n1.out
theorem zF2 {w W : World} {g g1 g2 t : Nat} {cs : Array Value} (B : Aside0 (w.heap[g]? = some (.cells cs t (0, 0)))) (n1 : Aside0 (g ≠ g1)) (n2 : Aside0 (g ≠ g2)) (s : w.heap[g]? = some (.cells cs t (0, 0)) → g ≠ g1 → g ≠ g2 → W.heap[g]? = some (.cells cs t (0, 0)) := by intro BK_ N1_ N2_; (with_reducible repeat (first | refine blk_drewN ?_ _ | refine blk_drew ?_ | refine blk_alloc ?_ _)); refine blk_far ?_ N1_ _; (with_reducible repeat (first | refine blk_drewN ?_ _ | refine blk_drew ?_ | refine blk_alloc ?_ _)); refine blk_far ?_ N2_ _; (with_reducible repeat (first | refine blk_drewN ?_ _ | refine blk_drew ?_ | refine blk_alloc ?_ _)); exact BK_) : W.heap[g]? = some (.cells cs t (0, 0)) := s B.out n1.out n2.out
theorem zF3 {w W : World} {g g1 g2 g3 t : Nat} {cs : Array Value} (B : Aside0 (w.heap[g]? = some (.cells cs t (0, 0)))) (n1 : Aside0 (g ≠ g1)) (n2 : Aside0 (g ≠ g2)) (n3 : Aside0 (g ≠ g3)) (s : w.heap[g]? = some (.cells cs t (0, 0)) → g ≠ g1 → g ≠ g2 → g ≠ g3 → W.heap[g]? = some (.cells cs t (0, 0)) := by intro BK_ N1_ N2_ N3_; (with_reducible repeat (first | refine blk_drewN ?_ _ | refine blk_drew ?_ | refine blk_alloc ?_ _)); refine blk_far ?_ N1_ _; (with_reducible repeat (first | refine blk_drewN ?_ _ | refine blk_drew ?_ | refine blk_alloc ?_ _)); refine blk_far ?_ N2_ _; (with_reducible repeat (first | refine blk_drewN ?_ _ | refine blk_drew ?_ | refine blk_alloc ?_ _)); refine blk_far ?_ N3_ _; (with_reducible repeat (first | refine blk_drewN ?_ _ | refine blk_drew ?_ | refine blk_alloc ?_ _)); exact BK_) : W.heap[g]? = some (.cells cs t (0, 0)) := s B.out n1.out n2.out n3.out
theorem zF4 {w W : World} {g g1 g2 g3 g4 t : Nat} {cs : Array Value} (B : Aside0 (w.heap[g]? = some (.cells cs t (0, 0)))) (n1 : Aside0 (g ≠ g1)) (n2 : Aside0 (g ≠ g2)) (n3 : Aside0 (g ≠ g3)) (n4 : Aside0 (g ≠ g4)) (s : w.heap[g]? = some (.cells cs t (0, 0)) → g ≠ g1 → g ≠ g2 → g ≠ g3 → g ≠ g4 → W.heap[g]? = some (.cells cs t (0, 0)) := by intro BK_ N1_ N2_ N3_ N4_; (with_reducible repeat (first | refine blk_drewN ?_ _ | refine blk_drew ?_ | refine blk_alloc ?_ _)); refine blk_far ?_ N1_ _; (with_reducible repeat (first | refine blk_drewN ?_ _ | refine blk_drew ?_ | refine blk_alloc ?_ _)); refine blk_far ?_ N2_ _; (with_reducible repeat (first | refine blk_drewN ?_ _ | refine blk_drew ?_ | refine blk_alloc ?_ _)); refine blk_far ?_ N3_ _; (with_reducible repeat (first | refine blk_drewN ?_ _ | refine blk_drew ?_ | refine blk_alloc ?_ _)); refine blk_far ?_ N4_ _; (with_reducible repeat (first | refine blk_drewN ?_ _ | refine blk_drew ?_ | refine blk_alloc ?_ _)); exact BK_) : W.heap[g]? = some (.cells cs t (0, 0)) := s B.out n1.out n2.out n3.out n4.out
theorem zF5 {w W : World} {g g1 g2 g3 g4 g5 t : Nat} {cs : Array Value} (B : Aside0 (w.heap[g]? = some (.cells cs t (0, 0)))) (n1 : Aside0 (g ≠ g1)) (n2 : Aside0 (g ≠ g2)) (n3 : Aside0 (g ≠ g3)) (n4 : Aside0 (g ≠ g4)) (n5 : Aside0 (g ≠ g5)) (s : w.heap[g]? = some (.cells cs t (0, 0)) → g ≠ g1 → g ≠ g2 → g ≠ g3 → g ≠ g4 → g ≠ g5 → W.heap[g]? = some (.cells cs t (0, 0)) := by intro BK_ N1_ N2_ N3_ N4_ N5_; (with_reducible repeat (first | refine blk_drewN ?_ _ | refine blk_drew ?_ | refine blk_alloc ?_ _)); refine blk_far ?_ N1_ _; (with_reducible repeat (first | refine blk_drewN ?_ _ | refine blk_drew ?_ | refine blk_alloc ?_ _)); refine blk_far ?_ N2_ _; (with_reducible repeat (first | refine blk_drewN ?_ _ | refine blk_drew ?_ | refine blk_alloc ?_ _)); refine blk_far ?_ N3_ _; (with_reducible repeat (first | refine blk_drewN ?_ _ | refine blk_drew ?_ | refine blk_alloc ?_ _)); refine blk_far ?_ N4_ _; (with_reducible repeat (first | refine blk_drewN ?_ _ | refine blk_drew ?_ | refine blk_alloc ?_ _)); refine blk_far ?_ N5_ _; (with_reducible repeat (first | refine blk_drewN ?_ _ | refine blk_drew ?_ | refine blk_alloc ?_ _)); exact BK_) : W.heap[g]? = some (.cells cs t (0, 0)) := s B.out n1.out n2.out n3.out n4.out n5.out
theorem zP {w W : World} {g t : Nat} {cs : Array Value} {o : Obj} (B : Aside0 (w.heap[g]? = some (.cells cs t (0, 0)))) (s : w.heap[g]? = some (.cells cs t (0, 0)) → (∀ (W1 : World) (i : Nat) (u : Value), W1.heap[g]? = some (.cells cs t (0, 0)) → (W1.setCell ⟨g, i, none⟩ u).heap[g]? = some (.cells (cs.setIfInBounds i u) t (0, 0))) → W.heap[g]? = some o := by intro BK_ P_; (with_reducible repeat (first | refine blk_drewN ?_ _ | refine blk_drew ?_ | refine blk_alloc ?_ _)); refine P_ _ _ _ ?_; (with_reducible repeat (first | refine blk_drewN ?_ _ | refine blk_drew ?_ | refine blk_alloc ?_ _)); exact BK_) : W.heap[g]? = some o := s B.out (fun _ i u h => blk_put h i u rfl)
theorem zPF {w W : World} {g g1 t : Nat} {cs : Array Value} {o : Obj} (B : Aside0 (w.heap[g]? = some (.cells cs t (0, 0)))) (n1 : Aside0 (g ≠ g1)) (s : w.heap[g]? = some (.cells cs t (0, 0)) → g ≠ g1 → (∀ (W1 : World) (i : Nat) (u : Value), W1.heap[g]? = some (.cells cs t (0, 0)) → (W1.setCell ⟨g, i, none⟩ u).heap[g]? = some (.cells (cs.setIfInBounds i u) t (0, 0))) → W.heap[g]? = some o := by intro BK_ N1_ P_; (with_reducible repeat (first | refine blk_drewN ?_ _ | refine blk_drew ?_ | refine blk_alloc ?_ _)); refine P_ _ _ _ ?_; (with_reducible repeat (first | refine blk_drewN ?_ _ | refine blk_drew ?_ | refine blk_alloc ?_ _)); refine blk_far ?_ N1_ _; (with_reducible repeat (first | refine blk_drewN ?_ _ | refine blk_drew ?_ | refine blk_alloc ?_ _)); exact BK_) : W.heap[g]? = some o := s B.out n1.out (fun _ i u h => blk_put h i u rfl)
theorem zQ2 {w W : World} {g t : Nat} {cs : Array Value} {o : Obj} (B : Aside0 (w.heap[g]? = some (.cells cs t (0, 0)))) (s : w.heap[g]? = some (.cells cs t (0, 0)) → (∀ (W1 : World) (c1 : Array Value) (i : Nat) (u : Value), W1.heap[g]? = some (.cells c1 t (0, 0)) → (W1.setCell ⟨g, i, none⟩ u).heap[g]? = some (.cells (c1.setIfInBounds i u) t (0, 0))) → W.heap[g]? = some o := by intro BK_ P_; (with_reducible repeat (first | refine blk_drewN ?_ _ | refine blk_drew ?_ | refine blk_alloc ?_ _)); refine Eq.trans (P_ _ ?_ _ _ ?_) ?_; rotate_left; (with_reducible repeat (first | refine blk_drewN ?_ _ | refine blk_drew ?_ | refine blk_alloc ?_ _)); refine Eq.trans (P_ _ ?_ _ _ ?_) ?_; rotate_left; (with_reducible repeat (first | refine blk_drewN ?_ _ | refine blk_drew ?_ | refine blk_alloc ?_ _)); exact BK_; all_goals rfl) : W.heap[g]? = some o := s B.out (fun _ _ i u h => blk_put h i u rfl)
theorem zQ3 {w W : World} {g t : Nat} {cs : Array Value} {o : Obj} (B : Aside0 (w.heap[g]? = some (.cells cs t (0, 0)))) (s : w.heap[g]? = some (.cells cs t (0, 0)) → (∀ (W1 : World) (c1 : Array Value) (i : Nat) (u : Value), W1.heap[g]? = some (.cells c1 t (0, 0)) → (W1.setCell ⟨g, i, none⟩ u).heap[g]? = some (.cells (c1.setIfInBounds i u) t (0, 0))) → W.heap[g]? = some o := by intro BK_ P_; (with_reducible repeat (first | refine blk_drewN ?_ _ | refine blk_drew ?_ | refine blk_alloc ?_ _)); refine Eq.trans (P_ _ ?_ _ _ ?_) ?_; rotate_left; (with_reducible repeat (first | refine blk_drewN ?_ _ | refine blk_drew ?_ | refine blk_alloc ?_ _)); refine Eq.trans (P_ _ ?_ _ _ ?_) ?_; rotate_left; (with_reducible repeat (first | refine blk_drewN ?_ _ | refine blk_drew ?_ | refine blk_alloc ?_ _)); refine Eq.trans (P_ _ ?_ _ _ ?_) ?_; rotate_left; (with_reducible repeat (first | refine blk_drewN ?_ _ | refine blk_drew ?_ | refine blk_alloc ?_ _)); exact BK_; all_goals rfl) : W.heap[g]? = some o := s B.out (fun _ _ i u h => blk_put h i u rfl)
theorem zQ4 {w W : World} {g t : Nat} {cs : Array Value} {o : Obj} (B : Aside0 (w.heap[g]? = some (.cells cs t (0, 0)))) (s : w.heap[g]? = some (.cells cs t (0, 0)) → (∀ (W1 : World) (c1 : Array Value) (i : Nat) (u : Value), W1.heap[g]? = some (.cells c1 t (0, 0)) → (W1.setCell ⟨g, i, none⟩ u).heap[g]? = some (.cells (c1.setIfInBounds i u) t (0, 0))) → W.heap[g]? = some o := by intro BK_ P_; (with_reducible repeat (first | refine blk_drewN ?_ _ | refine blk_drew ?_ | refine blk_alloc ?_ _)); refine Eq.trans (P_ _ ?_ _ _ ?_) ?_; rotate_left; (with_reducible repeat (first | refine blk_drewN ?_ _ | refine blk_drew ?_ | refine blk_alloc ?_ _)); refine Eq.trans (P_ _ ?_ _ _ ?_) ?_; rotate_left; (with_reducible repeat (first | refine blk_drewN ?_ _ | refine blk_drew ?_ | refine blk_alloc ?_ _)); refine Eq.trans (P_ _ ?_ _ _ ?_) ?_; rotate_left; (with_reducible repeat (first | refine blk_drewN ?_ _ | refine blk_drew ?_ | refine blk_alloc ?_ _)); refine Eq.trans (P_ _ ?_ _ _ ?_) ?_; rotate_left; (with_reducible repeat (first | refine blk_drewN ?_ _ | refine blk_drew ?_ | refine blk_alloc ?_ _)); exact BK_; all_goals rfl) : W.heap[g]? = some o := s B.out (fun _ _ i u h => blk_put h i u rfl)
theorem zK {α : Type} {d : Kd α} {e base : Nat} {ok : Nat → Prop} {w W' : World} {v : Value} {xs : List α} (H : Aside0 (d.R e w base ok v xs)) (s : d.R e w base ok v xs → d.R e W' base ok v xs := by intro H_; (with_reducible repeat (first | apply Kd.R_alloc | apply Kd.R_drewN | apply Kd.R_drew)); exact H_) : d.R e W' base ok v xs := s H.out
theorem rG {α : Type} {d : Kd α} {e base : Nat} {ok : Nat → Prop} {w W' : World} {v : Value} {xs : List α} {g t : Nat} {cells : Array Value} (H : Aside0 (d.R e w base ok v xs)) (B : Aside0 (w.heap[g]? = some (.cells cells t (0, 0)))) (ht : ∀ q, q ∈ e :: d.E → q ≠ t := by decide) (s : (∀ u, d.R e (w.setCell ⟨g, 0, none⟩ u) base (fun _ => True) v xs) → d.R e W' base (fun _ => True) v xs := by intro S_; (with_reducible repeat (first | apply Kd.R_alloc | apply Kd.R_drewN | apply Kd.R_drew)); exact S_ _) : d.R e W' base (fun _ => True) v xs := s fun u => Kd.R_mono (Kd.R_far (p := ⟨g, 0, none⟩) (Kd.R_types H.out B.out ht) (fun _ hk => hk.2) u) (fun _ _ => trivial)
theorem ba1 {w : World} {g t : Nat} {v0 : Value} {l : List Value} (B : Aside0 (w.heap[g]? = some (.cells (List.toArray (v0 :: l)) t (0, 0)))) : w.cell? ⟨g, 0, none⟩ = some v0 ∧ w.frozen? ⟨g, 0, none⟩ = false := ⟨bc0 B, bf B 0⟩
theorem ba2 {w : World} {g t : Nat} {v0 v1 : Value} {l : List Value} (B : Aside0 (w.heap[g]? = some (.cells (List.toArray (v0 :: v1 :: l)) t (0, 0)))) : w.cell? ⟨g, 0, none⟩ = some v0 ∧ w.cell? ⟨g, 1, none⟩ = some v1 ∧ w.frozen? ⟨g, 0, none⟩ = false ∧ w.frozen? ⟨g, 1, none⟩ = false := ⟨bc0 B, bc1 B, bf B 0, bf B 1⟩
theorem ba3 {w : World} {g t : Nat} {v0 v1 v2 : Value} {l : List Value} (B : Aside0 (w.heap[g]? = some (.cells (List.toArray (v0 :: v1 :: v2 :: l)) t (0, 0)))) : w.cell? ⟨g, 0, none⟩ = some v0 ∧ w.cell? ⟨g, 1, none⟩ = some v1 ∧ w.cell? ⟨g, 2, none⟩ = some v2 ∧ w.frozen? ⟨g, 0, none⟩ = false ∧ w.frozen? ⟨g, 1, none⟩ = false ∧ w.frozen? ⟨g, 2, none⟩ = false := ⟨bc0 B, bc1 B, bc2 B, bf B 0, bf B 1, bf B 2⟩
theorem ba4 {w : World} {g t : Nat} {v0 v1 v2 v3 : Value} {l : List Value} (B : Aside0 (w.heap[g]? = some (.cells (List.toArray (v0 :: v1 :: v2 :: v3 :: l)) t (0, 0)))) : w.cell? ⟨g, 0, none⟩ = some v0 ∧ w.cell? ⟨g, 1, none⟩ = some v1 ∧ w.cell? ⟨g, 2, none⟩ = some v2 ∧ w.cell? ⟨g, 3, none⟩ = some v3 ∧ w.frozen? ⟨g, 0, none⟩ = false ∧ w.frozen? ⟨g, 1, none⟩ = false ∧ w.frozen? ⟨g, 2, none⟩ = false ∧ w.frozen? ⟨g, 3, none⟩ = false := ⟨bc0 B, bc1 B, bc2 B, bc3 B, bf B 0, bf B 1, bf B 2, bf B 3⟩
theorem t0_ {P : Prop} (h : P := by repeat (first | (with_reducible first | exact HB.out | apply below_alloc | apply pw_below_drewN | apply below_drew1) | exact HB.out)) : P := h
theorem t1_ {P : Prop} (h : P := by (try simp only [List.map_toArray, List.map_cons, List.map_nil]); first | done | rfl | (simp only [List.length_drop, List.length_take]; rfl)) : P := h
theorem t2_ {P : Prop} (h : P := by repeat (first | (with_reducible first | exact HK.out | apply KeepBut.set_ | apply keep_drewN | apply keep_drew | apply keep_alloc | refine keep_far ?_ GW231.out _ | refine keep_far ?_ GW246.out _) | exact HK.out)) : P := h
theorem t3_ {P : Prop} (h : P := by repeat (first | (with_reducible first | exact HK.out | apply KeepBut.set_ | apply keep_drewN | apply keep_drew | apply keep_alloc) | exact HK.out)) : P := h
theorem t4_ {P : Prop} (h : P := by rw [hg]; exact (below_size (by repeat (first | (with_reducible first | exact HB.out | apply below_alloc | apply pw_below_drewN | apply below_drew1) | exact HB.out)))) : P := h
theorem t5_ {P : Prop} (h : P := by repeat (first | (with_reducible first | exact HI0.out | apply IsS93.alloc | apply IsS93.drewN | apply IsS93.drew | apply IsS93.set_1 | apply IsS93.set_2 | refine IsS93.far ?_ NB0_231.out _ | refine IsS93.far ?_ NB0_246.out _) | exact HI0.out)) : P := h
theorem t6_ {P : Prop} (h : P := by repeat (first | (with_reducible first | exact HB.out | apply below_alloc | apply pw_below_drewN | apply below_drew1 | refine below_set ?_ (IsS93.ge HI0.out) | refine below_set ?_ GE231.out | refine below_set ?_ GE246.out) | exact HB.out)) : P := h
theorem t7_ {P : Prop} (h : P := by first | (with_reducible assumption) | assumption) : P := h
theorem t8_ {P : Prop} (h : P := by repeat (first | (with_reducible first | exact HB.out | apply below_alloc | apply pw_below_drewN | apply below_drew1 | refine below_set ?_ (IsS93.ge HI0.out)) | exact HB.out)) : P := h
theorem t9_ {P : Prop} (h : P := by repeat (first | (with_reducible first | exact HI0.out | apply IsS93.alloc | apply IsS93.drewN | apply IsS93.drew | apply IsS93.set_1 | apply IsS93.set_2) | exact HI0.out)) : P := h
theorem t10_ {P : Prop} (h : P := by (with_reducible repeat (first | refine blk_drewN ?_ _ | refine blk_drew ?_ | refine blk_alloc ?_ _)); refine blk_far ?_ NB347_360.out _; (with_reducible repeat (first | refine blk_drewN ?_ _ | refine blk_drew ?_ | refine blk_alloc ?_ _)); refine blk_far ?_ NB347_360.out _; (with_reducible repeat (first | refine blk_drewN ?_ _ | refine blk_drew ?_ | refine blk_alloc ?_ _)); refine blk_far ?_ NB347_360.out _; (with_reducible repeat (first | refine blk_drewN ?_ _ | refine blk_drew ?_ | refine blk_alloc ?_ _)); refine blk_far ?_ NB347_360.out _; (with_reducible repeat (first | refine blk_drewN ?_ _ | refine blk_drew ?_ | refine blk_alloc ?_ _)); refine blk_far ?_ NB347_360.out _; (with_reducible repeat (first | refine blk_drewN ?_ _ | refine blk_drew ?_ | refine blk_alloc ?_ _)); exact BK347.out) : P := h
theorem t11_ {P : Prop} (h : P := by (with_reducible repeat (first | apply Kd.R_alloc | apply Kd.R_drewN | apply Kd.R_drew)); exact HO_247000.out) : P := h
theorem t12_ {P : Prop} (h : P := by (with_reducible repeat (first | apply Kd.R_alloc | apply Kd.R_drewN | apply Kd.R_drew)); exact HO_247004.out) : P := h
theorem t13_ {P : Prop} (h : P := by repeat (first | (with_reducible first | exact HB.out | apply below_alloc | apply pw_below_drewN | apply below_drew1 | refine below_set ?_ GE174.out) | exact HB.out)) : P := h
theorem t14_ {P : Prop} (h : P := by first | rfl | (simp; done) | (simp [*]; done)) : P := h
theorem t15_ {P : Prop} (h : P := by (with_reducible repeat (first | refine blk_drewN ?_ _ | refine blk_drew ?_ | refine blk_alloc ?_ _)); exact BK231.out) : P := h
theorem t16_ {P : Prop} (h : P := by repeat (first | (with_reducible first | exact HB.out | apply below_alloc | apply pw_below_drewN | apply below_drew1 | refine below_set ?_ GE333.out) | exact HB.out)) : P := h
theorem t17_ {P : Prop} (h : P := by (try simp only [List.map_toArray, List.map_cons, List.map_nil]); first | done | rfl) : P := h
theorem t18_ {P : Prop} (h : P := by (with_reducible repeat (first | refine blk_drewN ?_ _ | refine blk_drew ?_ | refine blk_alloc ?_ _)); exact BK246.out) : P := h
theorem t19_ {P : Prop} (h : P := by repeat (first | (with_reducible first | exact HB.out | apply below_alloc | apply pw_below_drewN | apply below_drew1 | refine below_set ?_ GE145.out) | exact HB.out)) : P := h
theorem t20_ {P : Prop} (h : P := by rw [hg]; exact (below_size (by repeat (first | (with_reducible first | exact HB.out | apply below_alloc | apply pw_below_drewN | apply below_drew1 | refine below_set ?_ GE333.out) | exact HB.out)))) : P := h
theorem t21_ {P : Prop} (h : P := by repeat (first | (with_reducible first | exact HB.out | apply below_alloc | apply pw_below_drewN | apply below_drew1 | refine below_set ?_ GE324.out) | exact HB.out)) : P := h
theorem t22_ {P : Prop} (h : P := by repeat (first | exact Drawn0.refl _ | apply Drawn0.step)) : P := h
theorem t23_ {P : Prop} (h : P := by repeat (first | (with_reducible first | exact HB.out | apply below_alloc | apply pw_below_drewN | apply below_drew1 | refine below_set ?_ GE347.out | refine below_set ?_ GE360.out) | exact HB.out)) : P := h
theorem t24_ {P : Prop} (h : P := by repeat (first | (with_reducible first | exact HI0.out | apply IsS71.alloc | apply IsS71.drewN | apply IsS71.drew | apply IsS71.set_0 | apply IsS71.set_1 | apply IsS71.set_2) | exact HI0.out)) : P := h
theorem t25_ {P : Prop} (h : P := by repeat (first | (with_reducible first | exact HK.out | apply KeepBut.set_ | apply keep_drewN | apply keep_drew | apply keep_alloc | refine keep_far ?_ GW231.out _) | exact HK.out)) : P := h
theorem t26_ {P : Prop} (h : P := by repeat (first | (with_reducible first | exact HB.out | apply below_alloc | apply pw_below_drewN | apply below_drew1 | refine below_set ?_ (IsS71.ge HI0.out)) | exact HB.out)) : P := h
theorem t27_ {P : Prop} (h : P := by repeat (first | (with_reducible first | exact HB.out | apply below_alloc | apply pw_below_drewN | apply below_drew1 | refine below_set ?_ GE333.out | refine below_set ?_ GE334.out) | exact HB.out)) : P := h
theorem t28_ {P : Prop} (h : P := by repeat (first | (with_reducible first | exact HB.out | apply below_alloc | apply pw_below_drewN | apply below_drew1 | refine below_set ?_ GE347.out) | exact HB.out)) : P := h
theorem t29_ {P : Prop} (h : P := by repeat (first | (with_reducible first | exact HB.out | apply below_alloc | apply pw_below_drewN | apply below_drew1 | refine below_set ?_ (IsS93.ge HI123.out)) | exact HB.out)) : P := h
theorem t30_ {P : Prop} (h : P := by (with_reducible repeat (first | apply Kd.V_alloc | apply Kd.V_drewN | apply Kd.V_drew)); exact HO0_0.out) : P := h
theorem t31_ {P : Prop} (h : P := by (with_reducible repeat (first | apply Kd.V_alloc | apply Kd.V_drewN | apply Kd.V_drew)); exact HO0_4.out) : P := h
theorem t32_ {P : Prop} (h : P := by (with_reducible repeat (first | apply Kd.R_alloc | apply Kd.R_drewN | apply Kd.R_drew)); exact HO213.out) : P := h
theorem t33_ {P : Prop} (h : P := by repeat (first | (with_reducible first | exact HBW.out | apply below_alloc | apply pw_below_drewN | apply below_drew1) | exact HBW.out)) : P := h
theorem t34_ {P : Prop} (h : P := by (with_reducible repeat (first | apply Kd.R_alloc | apply Kd.R_drewN | apply Kd.R_drew)); exact HO340.out) : P := h
theorem t35_ {P : Prop} (h : P := by (with_reducible repeat (first | apply Kd.R_alloc | apply Kd.R_drewN | apply Kd.R_drew)); exact HO346.out) : P := h
theorem t36_ {P : Prop} (h : P := by (with_reducible repeat (first | apply Kd.R_alloc | apply Kd.R_drewN | apply Kd.R_drew)); exact HO_4.out) : P := h
theorem t37_ {P : Prop} (h : P := by repeat (first | (with_reducible first | exact HI123.out | apply IsS93.alloc | apply IsS93.drewN | apply IsS93.drew | apply IsS93.set_1 | apply IsS93.set_2) | exact HI123.out)) : P := h
theorem t38_ {P : Prop} (h : P := by rw [hg]; exact (below_size (by repeat (first | (with_reducible first | exact HBW.out | apply below_alloc | apply pw_below_drewN | apply below_drew1) | exact HBW.out)))) : P := h
theorem t39_ {P : Prop} (h : P := by (with_reducible repeat (first | refine blk_drewN ?_ _ | refine blk_drew ?_ | refine blk_alloc ?_ _)); exact BK294.out) : P := h
theorem t40_ {P : Prop} (h : P := by (with_reducible repeat (first | apply Kd.R_alloc | apply Kd.R_drewN | apply Kd.R_drew)); exact HO_3.out) : P := h
end Go.Proofs.Ytpnncgfmihjlkaa.QFnManifests
