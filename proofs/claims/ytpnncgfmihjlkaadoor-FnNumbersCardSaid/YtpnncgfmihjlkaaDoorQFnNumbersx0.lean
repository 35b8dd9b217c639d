-- By a program of this session, over the kit's print.
import Derived.Test.YtpnncgfmihjlkaaDoorProg
import Derived.Below
import Derived.Deep.Draws
import Derived.Deep.AppendLies
import Derived.Maps.AppendAt
import Derived.OwnWalk
import Derived.Laws.BytesArg
import Derived.Laws.MakeOwn
import Derived.Laws.OwnMore
import Derived.Deep.OwnRows
import Derived.Tactics
import Derived.Lib.ConvBytes
import Derived.Laws.Slices
import Derived.WalkKit
import Derived.KernelRfl
import Derived.RowKit3
import Derived.Deep.LoopGhost
import Derived.Deep.QuietTactic
import Derived.BigQuiet
import Derived.WideLaws
import Derived.Deep.DeepCutAuto
import Derived.Deep.CutBlock
import Derived.Deep.RegionHeld3
import Derived.Laws.Rows
import Derived.Lib.AppendStr
import Derived.ArgAppend
import Derived.Laws.IdiomCopy
import Derived.OrdersHeld
import Derived.Laws.BitsLemmas
import Derived.RowKit
import Derived.Laws.Cover1
import Derived.Sort.Walk0
import Derived.Lib.Strings
import Derived.Lib.Slices
import Derived.Lib.Walk
import Derived.Lib.Bytealg
import Derived.Lib.SliceRun
import Derived.Deep.RegionLaw
import Derived.Shelf.RegionOpenPlain
import Derived.Shelf.Spec.SlicesInsertGrow
import Derived.Shelf.SlGeneric
import Derived.Shelf.SlSortCmp.NoneTotal
import Derived.Lib.SmallJoins
import Derived.Lib.AppendIntMem
import Derived.Lib.AtoiAllCases
import Derived.Lib.AtoiErrMem
import Derived.Test.YtpnncgfmihjlkaaDoorShAtoi
import Derived.Test.YtpnncgfmihjlkaaDoorWWords
import Derived.Test.YtpnncgfmihjlkaaDoorWLast
import Derived.Test.YtpnncgfmihjlkaaDoorWTab
import Derived.Test.YtpnncgfmihjlkaaDoorWFour
import Derived.Test.YtpnncgfmihjlkaaDoorWQPut
import Derived.Test.YtpnncgfmihjlkaaDoorWApart
import Derived.Test.YtpnncgfmihjlkaaDoorWArr
import Derived.Test.YtpnncgfmihjlkaaDoorWZeros
import Derived.Test.YtpnncgfmihjlkaaDoorWFoot
import Derived.Test.YtpnncgfmihjlkaaDoorWKept
import Derived.Test.YtpnncgfmihjlkaaDoorWShare
import Derived.Test.YtpnncgfmihjlkaaDoorWN
import Derived.Test.YtpnncgfmihjlkaaDoorWFootNe
import Derived.Test.YtpnncgfmihjlkaaDoorWAt
import Derived.Test.YtpnncgfmihjlkaaDoorWEqStruct
import Derived.Test.YtpnncgfmihjlkaaDoorWRepsOne
import Derived.Test.YtpnncgfmihjlkaaDoorWInv
import Derived.Test.YtpnncgfmihjlkaaDoorWInvWords
import Derived.Test.YtpnncgfmihjlkaaDoorWGuard
import Derived.Test.YtpnncgfmihjlkaaDoorWNEv
import Derived.Test.YtpnncgfmihjlkaaDoorWMore
namespace Go.Proofs.YtpnncgfmihjlkaaDoor.QFnNumbers
open Go.RowKit Go.Proofs.YtpnncgfmihjlkaaDoorW.PrintWords Go.Proofs.YtpnncgfmihjlkaaDoorW.PrintLast Go.Proofs.YtpnncgfmihjlkaaDoorW.PrintMore
attribute [local go_sem] max2_int min2_int max_two min_two max_three min_three max_four min_four   -- for this text's walks alone
set_option linter.unusedVariables false
set_option linter.unusedSimpArgs false



def errW : Option Int → Value
  | none => .nilIface
  | some c => .iface 0 (.int .i64 c)
theorem errW_none : errW none = .nilIface := rfl
theorem errW_some (c : Int) : errW (some c) = .iface 0 (.int .i64 c) := rfl

theorem info3 : (Tryd.prog.info? 3).map (fun i => (i.zero, i.size, i.bytes)) = some (some (.int .i64 0), 1, 8) := by kernel_rfl
theorem info5 : (Tryd.prog.info? 5).map (fun i => (i.zero, i.size, i.bytes)) = some (some (.int .u8 0), 1, 1) := by kernel_rfl
-- the values' own types

theorem bl_gtr_t {x y : List UInt8} (h : Op.bytesLess y x = true) : Op.bytesLess x y = false ∧ (x == y) = false := by
  rw [bytesLess_eq, decide_eq_true_eq] at h
  exact ⟨by rw [bytesLess_eq, decide_eq_false_iff_not]; exact fun h2 => List.lt_irrefl _ (List.lt_trans h h2), by rw [beq_eq_false_iff_ne]; rintro rfl; exact List.lt_irrefl _ h⟩
theorem bl_gtr_f {x y : List UInt8} (h : Op.bytesLess y x = false) : (Op.bytesLess x y || x == y) = true ∧ (!Op.bytesLess x y && !(x == y)) = false := by
  rw [bytesLess_eq, decide_eq_false_iff_not] at h
  rw [bytesLess_eq]
  by_cases e : x = y
  · subst e; simp
  · have : x < y := Classical.byContradiction fun h2 => e (List.le_antisymm (List.not_lt.1 h) (List.not_lt.1 h2))
    simp [this]
theorem bl_gtr_e (x y : List UInt8) : (!Op.bytesLess x y && !(x == y)) = Op.bytesLess y x := by
  by_cases h : Op.bytesLess y x = true
  · have := bl_gtr_t h
    rw [this.1, this.2, h]; rfl
  · have h2 := Bool.eq_false_iff.2 h
    rw [(bl_gtr_f h2).2, h2]
theorem bkN {w W w' : World} {g : Nat} {o : Obj} (B : Aside0 (w.heap[g]? = some o)) (hb : Below W.heap.size W w') (s : w.heap[g]? = some o → W.heap[g]? = some o := by intro BK_; (with_reducible repeat (first | refine blk_drewN ?_ _ | refine blk_drew ?_ | refine blk_alloc ?_ _)); exact BK_) : Aside0 (w'.heap[g]? = some o) := ⟨blk_below (s B.out) hb⟩
theorem bkF {w W w' : World} {g g' : Nat} {o : Obj} (B : Aside0 (w.heap[g]? = some o)) (n : Aside0 (g ≠ g')) (hb : Below W.heap.size W w') (s : g ≠ g' → w.heap[g]? = some o → W.heap[g]? = some o := by intro NB_ BK_; (with_reducible repeat (first | refine blk_drewN ?_ _ | refine blk_drew ?_ | refine blk_alloc ?_ _)); refine blk_far ?_ NB_ _; (with_reducible repeat (first | refine blk_drewN ?_ _ | refine blk_drew ?_ | refine blk_alloc ?_ _)); exact BK_) : Aside0 (w'.heap[g]? = some o) := ⟨blk_below (s n.out B.out) hb⟩
theorem nbL {w W : World} {g g' : Nat} {o : Obj} (B : Aside0 (w.heap[g]? = some o)) (hg : g' = W.heap.size) (s : w.heap[g]? = some o → W.heap[g]? = some o := by intro BK_; (with_reducible repeat (first | refine blk_drewN ?_ _ | refine blk_drew ?_ | refine blk_alloc ?_ _)); exact BK_) : Aside0 (g ≠ g') := ⟨by rw [hg]; exact Nat.ne_of_lt (blk_lt (s B.out))⟩
theorem nbG {w W : World} {g g' : Nat} {o : Obj} (B : Aside0 (w.heap[g]? = some o)) (hg : g' = W.heap.size) (s : w.heap[g]? = some o → W.heap[g]? = some o := by intro BK_; (with_reducible repeat (first | refine blk_drewN ?_ _ | refine blk_drew ?_ | refine blk_alloc ?_ _)); exact BK_) : Aside0 (g' ≠ g) := ⟨by rw [hg]; exact Nat.ne_of_gt (blk_lt (s B.out))⟩
theorem bc0 {w : World} {g t : Nat} {v0 : Value} {l : List Value} (B : Aside0 (w.heap[g]? = some (.cells (List.toArray (v0 :: l)) t (0, 0)))) : w.cell? ⟨g, 0, none⟩ = some v0 := (blk_cell B.out 0).trans rfl
theorem bc1 {w : World} {g t : Nat} {v0 v1 : Value} {l : List Value} (B : Aside0 (w.heap[g]? = some (.cells (List.toArray (v0 :: v1 :: l)) t (0, 0)))) : w.cell? ⟨g, 1, none⟩ = some v1 := (blk_cell B.out 1).trans rfl
theorem bc2 {w : World} {g t : Nat} {v0 v1 v2 : Value} {l : List Value} (B : Aside0 (w.heap[g]? = some (.cells (List.toArray (v0 :: v1 :: v2 :: l)) t (0, 0)))) : w.cell? ⟨g, 2, none⟩ = some v2 := (blk_cell B.out 2).trans rfl
theorem bc3 {w : World} {g t : Nat} {v0 v1 v2 v3 : Value} {l : List Value} (B : Aside0 (w.heap[g]? = some (.cells (List.toArray (v0 :: v1 :: v2 :: v3 :: l)) t (0, 0)))) : w.cell? ⟨g, 3, none⟩ = some v3 := (blk_cell B.out 3).trans rfl
theorem bc4 {w : World} {g t : Nat} {v0 v1 v2 v3 v4 : Value} {l : List Value} (B : Aside0 (w.heap[g]? = some (.cells (List.toArray (v0 :: v1 :: v2 :: v3 :: v4 :: l)) t (0, 0)))) : w.cell? ⟨g, 4, none⟩ = some v4 := (blk_cell B.out 4).trans rfl
theorem bf {w : World} {g t : Nat} {cs : Array Value} (B : Aside0 (w.heap[g]? = some (.cells cs t (0, 0)))) (i : Nat) : w.frozen? ⟨g, i, none⟩ = false := blk_frozen B.out i
theorem boxE {P : Program} {ops : Array Oper} {rest : List Oper} {o : Oper} {a : Act} {Q : Exit → Act → World → Prop} {W : World} {N : Tmp} {cs : Array Value} {t : TypeId} (hgd : o.guard = none := by rfl) (hd : o.dst = some N := by rfl)
    (hrun : (execOp a.eval o).run P W = .ok (.value (.pointer (some ⟨W.heap.size, 0, none⟩))) (W.alloc (.cells cs t (0, 0))) := by first | (go_simp; done) | (go_simp; rfl))
    (h : ∀ g, g = W.heap.size → ∀ w1, w1.heap[g]? = some (.cells cs t (0, 0)) → Below W.heap.size W w1 → wpList P ops Q rest (a.put o.dst (.pointer (some ⟨g, 0, none⟩))) w1) : wpList P ops Q (o :: rest) a W := box_event hgd hd hrun h
theorem cB {α : Type} {d : Kd α} {w W W' : World} {A : Option Addr} {n : Nat} {xs : List α} (R : Aside0 (Kd.C d w A n xs)) (B : Aside0 (Below w.heap.size w W)) (s : Kd.C d W A n xs → Kd.C d W' A n xs := by intro C_; repeat (first | exact C_ | (with_reducible refine Kd.C_alloc ?_ _) | (with_reducible refine Kd.C_drewN ?_ _) | (with_reducible refine Kd.C_drew ?_))) : Kd.C d W' A n xs := s (Kd.C_below R.out B.out)
theorem t0_ {P : Prop} (h : P := by repeat (first | (with_reducible first | exact HB.out | apply below_alloc | apply pw_below_drewN | apply below_drew1) | exact HB.out)) : P := h
theorem t1_ {P : Prop} (h : P := by (try simp only [List.map_toArray, List.map_cons, List.map_nil]); first | done | rfl | (simp only [List.length_drop, List.length_take]; rfl)) : P := h
theorem t2_ {P : Prop} (h : P := by repeat (first | (with_reducible first | exact HK.out | apply KeepBut.set_ | apply keep_drewN | apply keep_drew | apply keep_alloc) | exact HK.out)) : P := h
theorem t3_ {P : Prop} (h : P := by repeat (first | (with_reducible first | exact HB.out | apply below_alloc | apply pw_below_drewN | apply below_drew1 | refine below_set ?_ (IsS61.ge HI0.out)) | exact HB.out)) : P := h
theorem t4_ {P : Prop} (h : P := by repeat (first | (with_reducible first | exact HI0.out | apply IsS61.alloc | apply IsS61.drewN | apply IsS61.drew | apply IsS61.set_1 | apply IsS61.set_2) | exact HI0.out)) : P := h
theorem t5_ {P : Prop} (h : P := by first | (with_reducible assumption) | assumption) : P := h
theorem t6_ {P : Prop} (h : P := by first | rfl | (simp; done) | (simp [*]; done)) : P := h
theorem t7_ {P : Prop} (h : P := by repeat (first | (with_reducible first | exact HBW.out | apply below_alloc | apply pw_below_drewN | apply below_drew1) | exact HBW.out)) : P := h
theorem t8_ {P : Prop} (h : P := by rw [hg]; exact (below_size (by repeat (first | (with_reducible first | exact HBW.out | apply below_alloc | apply pw_below_drewN | apply below_drew1) | exact HBW.out)))) : P := h
theorem t9_ {P : Prop} (h : P := by (with_reducible repeat (first | apply Kd.R_alloc | apply Kd.R_drewN | apply Kd.R_drew)); exact HO_4.out) : P := h
theorem t10_ {P : Prop} (h : P := by repeat (first | exact Drawn0.refl _ | apply Drawn0.step)) : P := h
end Go.Proofs.YtpnncgfmihjlkaaDoor.QFnNumbers
