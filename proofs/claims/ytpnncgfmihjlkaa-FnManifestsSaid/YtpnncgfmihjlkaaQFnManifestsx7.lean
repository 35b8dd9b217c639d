-- By a program of this session, over the kit's print.
import Derived.Test.YtpnncgfmihjlkaaQFnManifestsx0
import Derived.Test.YtpnncgfmihjlkaaQFnManifestsx2
import Derived.Test.YtpnncgfmihjlkaaQFnManifestsx5
import Derived.Test.YtpnncgfmihjlkaaQFnManifestsx6
namespace Go.Proofs.Ytpnncgfmihjlkaa.QFnManifests
open Go.RowKit Go.Proofs.YtpnncgfmihjlkaaW.PrintWords Go.Proofs.YtpnncgfmihjlkaaW.PrintLast Go.Proofs.YtpnncgfmihjlkaaW.PrintMore
attribute [local go_sem] max2_int min2_int max_two min_two max_three min_three max_four min_four   -- for this text's walks alone
set_option linter.unusedVariables false
set_option linter.unusedSimpArgs false

/-! ### impl_ReadManifest: function 22 -/
/-- What ReadManifest has in memory while it reads: the reader, the variable that leads to it, the manifest, the result's cell. -/
def MS (w0 W : World) (gz g gr gm : Nat) (s : ByteArray) (a : Int) (b : Bool) (v0 : Value) (l0 : List Int) (n1 n2 n3 : Int) (v4 : Value) (l4 : List Int) : Prop :=
 (IsS71 w0 W g s a b ∧ Below w0.heap.size w0 W) ∧
 (W.heap[gz]? = some (.cells #[.slice none 0 0, .int .i64 0, .int .i64 0, .int .i64 0, .slice none 0 0] 36 (0, 0)) ∧ W.heap[gr]? = some (.cells #[.pointer (some ⟨g, 0, none⟩)] 69 (0, 0)) ∧
  W.heap[gm]? = some (.cells #[v0, .int .i64 n1, .int .i64 n2, .int .i64 n3, v4] 36 (0, 0))) ∧
 (Kd.R (Kd.int .i64) 3 W w0.heap.size (fun k_ => some k_ ≠ v4.ownBlock) v0 l0 ∧ Kd.R (Kd.int .i64) 3 W w0.heap.size (fun k_ => some k_ ≠ v0.ownBlock) v4 l4) ∧
 gz ≠ gm ∧ w0.heap.size ≤ gz ∧ w0.heap.size ≤ gr ∧ w0.heap.size ≤ gm
/-- A call of a function value with what it captures. -/
theorem goesF {P : Program} {ops : Array Oper} {Q : Exit → Act → World → Prop} {rest : List Oper} {oi : Oper} {a : Act} {w : World} (N : Option Tmp) (hd : oi.dst = N) (hg : oi.guard = none) {f : FuncId} {fn : Func} {o : Operand} {ts : Array TypeId} (hf : P.funcs[f]? = some fn) (hname : (fn.name == "runtime.NumGoroutine") = false) (hb : fn.body.isSome = true) (caps : Array Value)
 (hop : oi.op = .call { callee := .value o, args := #[], argTypes := ts }) (ho : a.eval o = .func (.func f) #[] caps)
 (h : Calls P f caps w fun e w' => ∃ v, e = .returned v ∧ wpList P ops Q rest (a.put N v) w') : wpList P ops Q (oi :: rest) a w := by
 refine wpList_plain hg fun K hK => ?_
 have he := enters_ hf hname hb caps w
 have hrun : (execOp a.eval oi).run P w = .ok (.enter f caps) w := by
  unfold execOp
  simp [hop, resolve, ho, Deferred.ofValue, invoke, he]
 unfold Oper.wp
 rw [hrun, Oper.upon_enter]; refine h.mono fun e w'' hh => ?_
 obtain ⟨v, rfl, hk⟩ := hh; subst hd; exact hK _ _ hk
def clT : Bool × List (List Nat × List Nat) := (true, [([], []), ([0], [0]), ([], []), ([2], [2]), ([3], [3]), ([1, 4, 3], [1, 4]), ([0, 1, 2, 3, 4, 5], []), ([6, 5, 5, 0, 1, 2, 3, 4, 5], [5, 6])])
def clB : List Nat := [0, 1, 0, 4, 12, 31, 63, 127]
theorem clbits : waitsOk clT.2 clB = true := by kernel_rfl
section
variable {w0 W W' : World} {gz g gr gm : Nat} {s s' : ByteArray} {a a' : Int} {b b' : Bool} {v0 v4 : Value} {l0 l4 : List Int} {n1 n2 n3 : Int}
theorem MS.below (h : MS w0 W gz g gr gm s a b v0 l0 n1 n2 n3 v4 l4) (hb : Below W.heap.size W W') : MS w0 W' gz g gr gm s a b v0 l0 n1 n2 n3 v4 l4 := by
 obtain ⟨⟨hI, hB⟩, ⟨hz, hr, hm⟩, ⟨ho0, ho4⟩, h2⟩ := h; exact ⟨⟨IsS71.below hI hb, below_step hB hb⟩, ⟨blk_below hz hb, blk_below hr hb, blk_below hm hb⟩, ⟨Kd.R_below ho0 hb, Kd.R_below ho4 hb⟩, h2⟩
theorem MS.keep (h : MS w0 W gz g gr gm s a b v0 l0 n1 n2 n3 v4 l4) (hi : IsS71 w0 W' g s' a' b') (hb : Below w0.heap.size w0 W') (hk : KeepBut W W' g none) : MS w0 W' gz g gr gm s' a' b' v0 l0 n1 n2 n3 v4 l4 := by
 obtain ⟨⟨hI, hB⟩, ⟨hz, hr, hm⟩, ⟨ho0, ho4⟩, h2⟩ := h; have NZ : gz ≠ g := blk_ne hz hI.1 (by decide); have NR : gr ≠ g := blk_ne hr hI.1 (by decide); have NM : gm ≠ g := blk_ne hm hI.1 (by decide)
 exact ⟨⟨hi, hb⟩, ⟨KeepBut.blk hk hz NZ (by simp), KeepBut.blk hk hr NR (by simp), KeepBut.blk hk hm NM (by simp)⟩,
  ⟨Kd.R_mono (Kd.R_keep (IsS71.apart hI ho0 (by decide)) hk (fun _ h => h.2)) (fun _ h => h.1), Kd.R_mono (Kd.R_keep (IsS71.apart hI ho4 (by decide)) hk (fun _ h => h.2)) (fun _ h => h.1)⟩, h2⟩
theorem MS.drewN (h : MS w0 W gz g gr gm s a b v0 l0 n1 n2 n3 v4 l4) (n : Nat) : MS w0 (W.drewN n) gz g gr gm s a b v0 l0 n1 n2 n3 v4 l4 := h.below (pw_below_drewN (Below.refl _ _) n)
theorem MS.set1 (h : MS w0 W gz g gr gm s a b v0 l0 n1 n2 n3 v4 l4) (x : Int) : MS w0 (W.setCell ⟨gm, 1, none⟩ (.int .i64 x)) gz g gr gm s a b v0 l0 x n2 n3 v4 l4 := by
 obtain ⟨⟨hI, hB⟩, ⟨hz, hr, hm⟩, ⟨ho0, ho4⟩, hne, hgz, hgr, hgm⟩ := h; exact ⟨⟨IsS71.far hI (blk_ne hI.1 hm (by decide)) _, below_set hB hgm⟩, ⟨blk_far hz hne _, blk_far hr (blk_ne hr hm (by decide)) _, (blk_set hm 1 _).trans rfl⟩, ⟨Kd.R_set ho0 hm (by decide) 1 _, Kd.R_set ho4 hm (by decide) 1 _⟩, hne, hgz, hgr, hgm⟩
theorem MS.set2 (h : MS w0 W gz g gr gm s a b v0 l0 n1 n2 n3 v4 l4) (x : Int) : MS w0 (W.setCell ⟨gm, 2, none⟩ (.int .i64 x)) gz g gr gm s a b v0 l0 n1 x n3 v4 l4 := by
 obtain ⟨⟨hI, hB⟩, ⟨hz, hr, hm⟩, ⟨ho0, ho4⟩, hne, hgz, hgr, hgm⟩ := h; exact ⟨⟨IsS71.far hI (blk_ne hI.1 hm (by decide)) _, below_set hB hgm⟩, ⟨blk_far hz hne _, blk_far hr (blk_ne hr hm (by decide)) _, (blk_set hm 2 _).trans rfl⟩, ⟨Kd.R_set ho0 hm (by decide) 2 _, Kd.R_set ho4 hm (by decide) 2 _⟩, hne, hgz, hgr, hgm⟩
theorem MS.set3 (h : MS w0 W gz g gr gm s a b v0 l0 n1 n2 n3 v4 l4) (x : Int) : MS w0 (W.setCell ⟨gm, 3, none⟩ (.int .i64 x)) gz g gr gm s a b v0 l0 n1 n2 x v4 l4 := by
 obtain ⟨⟨hI, hB⟩, ⟨hz, hr, hm⟩, ⟨ho0, ho4⟩, hne, hgz, hgr, hgm⟩ := h; exact ⟨⟨IsS71.far hI (blk_ne hI.1 hm (by decide)) _, below_set hB hgm⟩, ⟨blk_far hz hne _, blk_far hr (blk_ne hr hm (by decide)) _, (blk_set hm 3 _).trans rfl⟩, ⟨Kd.R_set ho0 hm (by decide) 3 _, Kd.R_set ho4 hm (by decide) 3 _⟩, hne, hgz, hgr, hgm⟩
/-- The cells that the walk reads. -/
theorem MS.cells (h : MS w0 W gz g gr gm s a b v0 l0 n1 n2 n3 v4 l4) : (W.cell? ⟨gr, 0, none⟩ = some (.pointer (some ⟨g, 0, none⟩)) ∧ W.frozen? ⟨gr, 0, none⟩ = false) ∧
 (W.cell? ⟨gm, 0, none⟩ = some v0 ∧ W.cell? ⟨gm, 1, none⟩ = some (.int .i64 n1) ∧ W.cell? ⟨gm, 2, none⟩ = some (.int .i64 n2) ∧ W.cell? ⟨gm, 3, none⟩ = some (.int .i64 n3) ∧ W.cell? ⟨gm, 4, none⟩ = some v4) ∧
 (W.frozen? ⟨gm, 0, none⟩ = false ∧ W.frozen? ⟨gm, 1, none⟩ = false ∧ W.frozen? ⟨gm, 2, none⟩ = false ∧ W.frozen? ⟨gm, 3, none⟩ = false ∧ W.frozen? ⟨gm, 4, none⟩ = false) := by
 obtain ⟨⟨hI, hB⟩, ⟨hz, hr, hm⟩, ⟨ho0, ho4⟩, h2⟩ := h; exact ⟨⟨(blk_cell hr 0).trans rfl, blk_frozen hr 0⟩, ⟨(blk_cell hm 0).trans rfl, (blk_cell hm 1).trans rfl, (blk_cell hm 2).trans rfl, (blk_cell hm 3).trans rfl, (blk_cell hm 4).trans rfl⟩, ⟨blk_frozen hm 0, blk_frozen hm 1, blk_frozen hm 2, blk_frozen hm 3, blk_frozen hm 4⟩⟩
end
def rdE.l0 : Nat → Int → Int → ByteArray → Int → Bool → List Int → Option (ByteArray × Int × Bool × List Int)
 | 0, _, _, _, _, _, _ => none
 | k + 1, n, i, s, a, b, xs => if i < n then (if b = true then (some (s, a, b, xs)) else ((impl_reader_num.f k s a b).bind fun r => (if xs.length < 17592186044416 then (rdE.l0 k n (wrap64 (i + 1)) r.2.1 r.2.2.1 r.2.2.2 (xs ++ [r.1])) else (none)))) else (some (s, a, b, xs))
/-- How many there are, and each one: numbers. -/
def rdE.f (k : Nat) (s : ByteArray) (a : Int) (b : Bool) : Option (ByteArray × Int × Bool × List Int) := (impl_reader_num.f k s a b).bind fun r => rdE.l0 k r.1 0 r.2.1 r.2.2.1 r.2.2.2 []
theorem rdE.mono_l : ∀ k, (∀ y0 y1 y2 y3 y4 y5, LeO (rdE.l0 k y0 y1 y2 y3 y4 y5) (rdE.l0 (k + 1) y0 y1 y2 y3 y4 y5))
 | 0 => fun _ _ _ _ _ _ r h => by simp [rdE.l0] at h
 | k + 1 => by
  have ih0 := rdE.mono_l k; intro y0 y1 y2 y3 y4 y5
  unfold rdE.l0
  repeat' first
  | (with_reducible exact ih0 _ _ _ _ _ _)
  | (with_reducible exact impl_reader_num.mono _ _ _ _)
  | (with_reducible exact LeO.refl _)
  | (with_reducible exact LeO.none _)
  | (with_reducible refine LeO.ite ?_ ?_)
  | (with_reducible refine LeO.bind ?_ (fun _ => ?_))
theorem rdE.mono : ∀ a0 a1 a2 k, LeO (rdE.f k a0 a1 a2) (rdE.f (k + 1) a0 a1 a2) := by
 intro a0 a1 a2 k
 unfold rdE.f
 exact LeO.bind (impl_reader_num.mono _ _ _ _) (fun _ => rdE.mono_l _ _ _ _ _ _ _)
theorem rd1.tab : rtab .any (opsOf Try.f52 0) = clT := by kernel_rfl
set_option maxHeartbeats 8000000 in
set_option maxRecDepth 100000 in
theorem rd1.calls (k gz g gr gm : Nat) (s : ByteArray) (a : Int) (b : Bool) (v0 : Value) (l0 : List Int) (n1 n2 n3 : Int) (v4 : Value) (l4 : List Int) (n : Int) (s' : ByteArray) (a' : Int) (b' : Bool) (w0 w : World)
 (hM : MS w0 w gz g gr gm s a b v0 l0 n1 n2 n3 v4 l4) (h : impl_reader_num.f k s a b = some (n, s', a', b')) (hl : l0.length < 17592186044416) :
 Calls Try.prog 52 #[.pointer (some ⟨gm, 0, none⟩), .pointer (some ⟨gr, 0, none⟩)] w fun e w' => e = .returned (.tuple #[]) ∧ ∃ v' : Value, MS w0 w' gz g gr gm s' a' b' v' (l0 ++ [n]) n1 n2 n3 v4 l4 := by
 have hu36 := Try.underlying36; have hu69 := Try.underlying69; obtain ⟨⟨hI, hB⟩, ⟨hz, hr, hm⟩, ⟨ho0, ho4⟩, hne, hgz, hgr, hgm⟩ := hM; have HI := Aside0.mk hI; have HB := Aside0.mk hB; have BZ := Aside0.mk hz; have BR := Aside0.mk hr; have BM := Aside0.mk hm; have HO0 := Aside0.mk ho0; have HO4 := Aside0.mk ho4; have NE := Aside0.mk hne; have GZ := Aside0.mk hgz; have GR := Aside0.mk hgr; have GM := Aside0.mk hgm; have A1 := Aside0.mk h; have LM := Aside0.mk hl; clear hI hB hz hr hm ho0 ho4 hne hgz hgr hgm h hl; go_enter Try.func52, Try.ntmps52
 try go_wp2
 replace HO0 := Aside0.mk (Kd.R_drew HO0.out); replace HO4 := Aside0.mk (Kd.R_drew HO4.out); replace BZ := Aside0.mk (blk_drew BZ.out); replace BR := Aside0.mk (blk_drew BR.out); replace BM := Aside0.mk (blk_drew BM.out); replace HI := Aside0.mk (IsS71.drew HI.out); replace HB := Aside0.mk (below_drew1 HB.out); refine start_ (n := 8) (S := fun w' => w'.cell? ⟨gm, 0, none⟩ = some (v0) ∧ w'.cell? ⟨gm, 1, none⟩ = some (.int .i64 n1) ∧ w'.cell? ⟨gm, 2, none⟩ = some (.int .i64 n2) ∧ w'.cell? ⟨gm, 3, none⟩ = some (.int .i64 n3) ∧ w'.cell? ⟨gm, 4, none⟩ = some (v4) ∧ w'.cell? ⟨gr, 0, none⟩ = some (.pointer (some ⟨g, 0, none⟩))) (ds := [7]) #[false, false, false, false, false, false, false, false] (by kernel_rfl) rfl rfl ⟨bc0 BM, bc1 BM, bc2 BM, bc3 BM, bc4 BM, bc0 BR⟩ (fun hHeld => ?_); refine with_tabW rd1.tab clbits (fun HT_ HW_ => ?_)
 generalize w.drew = w20 at HO0 HO4 BZ BR BM HI HB hHeld ⊢; refine pure_ (i := 0) (N := some 2) (v := ?_) (a' := ?_) #[true, false, false, false, false, false, false, false] rfl rfl (any_of HT_.out (by kernel_rfl)) (fun _ _ _ h => h) (Or.inl ⟨by rfl, ?_⟩) ?_ ?_
 rotate_left
 · intro w'; go_simp; with_reducible rfl
 rotate_left
 · simp only [Act.put, ps1, ps2, ps3, i64_w, i32_w]; rfl
 refine take_ (i := 1) (N := some 3) (v := ?_) (a' := ?_) #[true, true, false, false, false, false, false, false] rfl rfl (take_ofW HT_.out HW_.out (by kernel_rfl)) (fun _ _ _ h => h) (Or.inl ⟨by rfl, ?_⟩) hHeld ?_ ?_
 rotate_left
 · rintro w' ⟨s0, s1, s2, s3, s4, s5⟩; go_simp; with_reducible rfl
 rotate_left
 · simp only [Act.put, ps1, ps2, ps3, i64_w, i32_w]; rfl
 refine take_ (i := 2) (N := some 4) (v := ?_) (a' := ?_) #[true, true, true, false, false, false, false, false] rfl rfl (take_ofW HT_.out HW_.out (by kernel_rfl)) (fun _ _ _ h => h) (Or.inl ⟨by rfl, ?_⟩) hHeld ?_ ?_
 rotate_left
 · rintro w' ⟨s0, s1, s2, s3, s4, s5⟩; go_simp; with_reducible rfl
 rotate_left
 · simp only [Act.put, ps1, ps2, ps3, i64_w, i32_w]; rfl
 refine one_ (i := 3) (N := some 5) #[true, true, true, true, false, false, false, false] rfl rfl (one_of HT_.out (by kernel_rfl)) (by decide) (fun K hK => ?_)
 refine goes_ Try.func53 (by kernel_rfl) rfl #[.pointer (some ⟨g, 0, none⟩)] (by rfl) rfl rfl t17_ ?_
 with_reducible refine (impl_reader_num.calls k g s a b n s' a' b' w0 _ HI.out HB.out A1.out).mono ?_
 rintro e w21 ⟨rfl, hi, hb, hk⟩; refine ⟨_, rfl, ?_⟩; have NZ : gz ≠ g := blk_ne BZ.out HI.out.1 (by decide); have NR : gr ≠ g := blk_ne BR.out HI.out.1 (by decide); have NM : gm ≠ g := blk_ne BM.out HI.out.1 (by decide); replace HO0 := Aside0.mk (Kd.R_mono (Kd.R_keep (IsS71.apart HI.out HO0.out (by decide)) hk (fun _ h => h.2)) (fun _ h => h.1)); replace HO4 := Aside0.mk (Kd.R_mono (Kd.R_keep (IsS71.apart HI.out HO4.out (by decide)) hk (fun _ h => h.2)) (fun _ h => h.1)); replace BZ := Aside0.mk (KeepBut.blk hk BZ.out NZ (by simp)); replace BR := Aside0.mk (KeepBut.blk hk BR.out NR (by simp)); replace BM := Aside0.mk (KeepBut.blk hk BM.out NM (by simp)); replace HB := Aside0.mk hb; replace HI := Aside0.mk hi; clear hb hk hi NZ NR NM; refine hK.out _ _ ⟨bc0 BM, bc1 BM, bc2 BM, bc3 BM, bc4 BM, bc0 BR⟩ (fun hHeld => ?_)
 clear hK K; refine norm_ (a' := ?_) ?_ ?_; rotate_left
 · show Act.put _ (some 5) _ = _
   simp only [Act.put, ps1, ps2, ps3, i64_w, i32_w]; rfl
 refine one_ (i := 4) (N := some 6) #[true, true, true, true, true, false, false, false] rfl rfl (one_of HT_.out (by kernel_rfl)) (by decide) (fun K hK => ?_)
 refine value_ (w1 := ?_) (v := ?_) (by rfl) rfl ?_ ?_
 rotate_left 2
 · go_simp
   constructor
   · rfl
   · rfl
 refine hK.out _ _ ⟨(blk_cell (blk_alloc BM.out _) 0).trans rfl, (blk_cell (blk_alloc BM.out _) 1).trans rfl, (blk_cell (blk_alloc BM.out _) 2).trans rfl, (blk_cell (blk_alloc BM.out _) 3).trans rfl, (blk_cell (blk_alloc BM.out _) 4).trans rfl, (blk_cell (blk_alloc BR.out _) 0).trans rfl⟩ (fun hHeld => ?_)
 clear hK K; refine norm_ (a' := ?_) ?_ ?_; rotate_left
 · show Act.put _ (some 6) _ = _
   simp only [Act.put, ps1, ps2, ps3, i64_w, i32_w]; rfl
 refine one_ (i := 5) (N := some 7) #[true, true, true, true, true, true, false, false] rfl rfl (one_of HT_.out (by kernel_rfl)) (by decide) (fun K hK => ?_)
 refine Kd.R_append_step (Kd.int .i64) (w0 := w0) w0.heap.size (by rfl) (.tmp 3) (.tmp 6) 25 3 (.int .i64 0) 8 rfl Try.underlying25 (by kernel_rfl) rfl (by decide) (by omega) v0 l0 n [.int .i64 n] (fun k_ => some k_ ≠ v4.ownBlock) (fun _ => False) rfl rfl ?aP (fun _ hk => hk.elim) ?aF ?aO ?aB ?aS ?aL ?_
 (case aP => exact rfl)
 (case aB => exact HB.out)
 (case aF => exact (fun k_ hk => Kd.fresh' (Kd.R_lt HO4.out) k_ hk))
 (case aO => exact HO0.out)
 (case aS => exact below_size HB.out)
 (case aL => have := LM.out; omega)
 intro v206 w22 ho hb hg hat; have HOa := Aside0.mk ho; have HOb := Aside0.mk (Kd.R_after (ok := (fun _ => True)) (Kd.R_mono HO4.out (fun _ hk => ⟨trivial, hk⟩)) hg hat); have n0_ := Aside0.mk (blk_grown BZ.out hg (Kd.R_ne HO0.out BZ.out (by decide))); have n1_ := Aside0.mk (blk_grown BM.out hg (Kd.R_ne HO0.out BM.out (by decide))); have n2_ := Aside0.mk (blk_grown BR.out hg (Kd.R_ne HO0.out BR.out (by decide))); have n3_ := Aside0.mk (IsS71.grown HI.out hg (IsS71.own_ne HI.out HO0.out (by decide))); have n4_ := Aside0.mk hb; clear HO0 HO4 BZ BM BR HI HB ho hb hg hat hHeld; have BZ := n0_; have BM := n1_; have BR := n2_; have HI := n3_; have HB := n4_; clear n0_ n1_ n2_ n3_ n4_; obtain ⟨Ao, co, eo⟩ := Kd.R_slice HOa.out; rw [show (l0 ++ [n]).length = l0.length + 1 by simp] at eo; subst eo; refine hK.out _ _ ⟨bc0 BM, bc1 BM, bc2 BM, bc3 BM, bc4 BM, bc0 BR⟩ (fun hHeld => ?_)
 clear hK K; refine norm_ (a' := ?_) ?_ ?_; rotate_left
 · show Act.put _ (some 7) _ = _
   simp only [Act.put, ps1, ps2, ps3, i64_w, i32_w]; rfl
 refine pure_ (i := 6) (N := some 8) (v := ?_) (a' := ?_) #[true, true, true, true, true, true, true, false] rfl rfl (any_of HT_.out (by kernel_rfl)) (fun _ _ _ h => h) (Or.inl ⟨by rfl, ?_⟩) ?_ ?_
 rotate_left
 · intro w'; go_simp; with_reducible rfl
 rotate_left
 · simp only [Act.put, ps1, ps2, ps3, i64_w, i32_w]; rfl
 refine last_ (i := 7) (N := none) #[true, true, true, true, true, true, true, true] rfl rfl (one_of HT_.out (by kernel_rfl)) (by decide) (fun K hK => ?_)
 have hs24 := bc0 BM; have hfs24 := bf BM 0; refine skip_ (w1 := ?_) (by rfl) rfl ?_ ?_
 rotate_left
 · go_simp; rfl
 refine hK.out _ _ ?_
 clear hK K; refine done_ (done_of HT_.out (by kernel_rfl)) ?_
 try go_wp2
 go_end0
 have NR : gr ≠ gm := blk_ne BR.out BM.out (by decide); have NG : g ≠ gm := blk_ne HI.out.1 BM.out (by decide); exact ⟨by first | rfl | (simp; done), _, ⟨⟨IsS71.far HI.out NG _, below_set HB.out GM.out⟩, ⟨blk_far BZ.out NE.out _, blk_far BR.out NR _, (blk_set BM.out 0 _).trans rfl⟩, ⟨Kd.R_set HOa.out BM.out (by decide) 0 _, Kd.R_set (Kd.R_mono HOb.out (fun _ h => h.2)) BM.out (by decide) 0 _⟩, NE.out, GZ.out, GR.out, GM.out⟩⟩
theorem rd2.tab : rtab .any (opsOf Try.f54 0) = clT := by kernel_rfl
set_option maxHeartbeats 8000000 in
set_option maxRecDepth 100000 in
theorem rd2.calls (k gz g gr gm : Nat) (s : ByteArray) (a : Int) (b : Bool) (v0 : Value) (l0 : List Int) (n1 n2 n3 : Int) (v4 : Value) (l4 : List Int) (n : Int) (s' : ByteArray) (a' : Int) (b' : Bool) (w0 w : World)
 (hM : MS w0 w gz g gr gm s a b v0 l0 n1 n2 n3 v4 l4) (h : impl_reader_num.f k s a b = some (n, s', a', b')) (hl : l4.length < 17592186044416) :
 Calls Try.prog 54 #[.pointer (some ⟨gm, 0, none⟩), .pointer (some ⟨gr, 0, none⟩)] w fun e w' => e = .returned (.tuple #[]) ∧ ∃ v' : Value, MS w0 w' gz g gr gm s' a' b' v0 l0 n1 n2 n3 v' (l4 ++ [n]) := by
 have hu36 := Try.underlying36; have hu69 := Try.underlying69; obtain ⟨⟨hI, hB⟩, ⟨hz, hr, hm⟩, ⟨ho0, ho4⟩, hne, hgz, hgr, hgm⟩ := hM; have HI := Aside0.mk hI; have HB := Aside0.mk hB; have BZ := Aside0.mk hz; have BR := Aside0.mk hr; have BM := Aside0.mk hm; have HO0 := Aside0.mk ho0; have HO4 := Aside0.mk ho4; have NE := Aside0.mk hne; have GZ := Aside0.mk hgz; have GR := Aside0.mk hgr; have GM := Aside0.mk hgm; have A1 := Aside0.mk h; have LM := Aside0.mk hl; clear hI hB hz hr hm ho0 ho4 hne hgz hgr hgm h hl; go_enter Try.func54, Try.ntmps54
 try go_wp2
 replace HO0 := Aside0.mk (Kd.R_drew HO0.out); replace HO4 := Aside0.mk (Kd.R_drew HO4.out); replace BZ := Aside0.mk (blk_drew BZ.out); replace BR := Aside0.mk (blk_drew BR.out); replace BM := Aside0.mk (blk_drew BM.out); replace HI := Aside0.mk (IsS71.drew HI.out); replace HB := Aside0.mk (below_drew1 HB.out); refine start_ (n := 8) (S := fun w' => w'.cell? ⟨gm, 0, none⟩ = some (v0) ∧ w'.cell? ⟨gm, 1, none⟩ = some (.int .i64 n1) ∧ w'.cell? ⟨gm, 2, none⟩ = some (.int .i64 n2) ∧ w'.cell? ⟨gm, 3, none⟩ = some (.int .i64 n3) ∧ w'.cell? ⟨gm, 4, none⟩ = some (v4) ∧ w'.cell? ⟨gr, 0, none⟩ = some (.pointer (some ⟨g, 0, none⟩))) (ds := [7]) #[false, false, false, false, false, false, false, false] (by kernel_rfl) rfl rfl ⟨bc0 BM, bc1 BM, bc2 BM, bc3 BM, bc4 BM, bc0 BR⟩ (fun hHeld => ?_); refine with_tabW rd2.tab clbits (fun HT_ HW_ => ?_)
 generalize w.drew = w20 at HO0 HO4 BZ BR BM HI HB hHeld ⊢; refine pure_ (i := 0) (N := some 2) (v := ?_) (a' := ?_) #[true, false, false, false, false, false, false, false] rfl rfl (any_of HT_.out (by kernel_rfl)) (fun _ _ _ h => h) (Or.inl ⟨by rfl, ?_⟩) ?_ ?_
 rotate_left
 · intro w'; go_simp; with_reducible rfl
 rotate_left
 · simp only [Act.put, ps1, ps2, ps3, i64_w, i32_w]; rfl
 refine take_ (i := 1) (N := some 3) (v := ?_) (a' := ?_) #[true, true, false, false, false, false, false, false] rfl rfl (take_ofW HT_.out HW_.out (by kernel_rfl)) (fun _ _ _ h => h) (Or.inl ⟨by rfl, ?_⟩) hHeld ?_ ?_
 rotate_left
 · rintro w' ⟨s0, s1, s2, s3, s4, s5⟩; go_simp; with_reducible rfl
 rotate_left
 · simp only [Act.put, ps1, ps2, ps3, i64_w, i32_w]; rfl
 refine take_ (i := 2) (N := some 4) (v := ?_) (a' := ?_) #[true, true, true, false, false, false, false, false] rfl rfl (take_ofW HT_.out HW_.out (by kernel_rfl)) (fun _ _ _ h => h) (Or.inl ⟨by rfl, ?_⟩) hHeld ?_ ?_
 rotate_left
 · rintro w' ⟨s0, s1, s2, s3, s4, s5⟩; go_simp; with_reducible rfl
 rotate_left
 · simp only [Act.put, ps1, ps2, ps3, i64_w, i32_w]; rfl
 refine one_ (i := 3) (N := some 5) #[true, true, true, true, false, false, false, false] rfl rfl (one_of HT_.out (by kernel_rfl)) (by decide) (fun K hK => ?_)
 refine goes_ Try.func53 (by kernel_rfl) rfl #[.pointer (some ⟨g, 0, none⟩)] (by rfl) rfl rfl t17_ ?_
 with_reducible refine (impl_reader_num.calls k g s a b n s' a' b' w0 _ HI.out HB.out A1.out).mono ?_
 rintro e w21 ⟨rfl, hi, hb, hk⟩; refine ⟨_, rfl, ?_⟩; have NZ : gz ≠ g := blk_ne BZ.out HI.out.1 (by decide); have NR : gr ≠ g := blk_ne BR.out HI.out.1 (by decide); have NM : gm ≠ g := blk_ne BM.out HI.out.1 (by decide); replace HO0 := Aside0.mk (Kd.R_mono (Kd.R_keep (IsS71.apart HI.out HO0.out (by decide)) hk (fun _ h => h.2)) (fun _ h => h.1)); replace HO4 := Aside0.mk (Kd.R_mono (Kd.R_keep (IsS71.apart HI.out HO4.out (by decide)) hk (fun _ h => h.2)) (fun _ h => h.1)); replace BZ := Aside0.mk (KeepBut.blk hk BZ.out NZ (by simp)); replace BR := Aside0.mk (KeepBut.blk hk BR.out NR (by simp)); replace BM := Aside0.mk (KeepBut.blk hk BM.out NM (by simp)); replace HB := Aside0.mk hb; replace HI := Aside0.mk hi; clear hb hk hi NZ NR NM; refine hK.out _ _ ⟨bc0 BM, bc1 BM, bc2 BM, bc3 BM, bc4 BM, bc0 BR⟩ (fun hHeld => ?_)
 clear hK K; refine norm_ (a' := ?_) ?_ ?_; rotate_left
 · show Act.put _ (some 5) _ = _
   simp only [Act.put, ps1, ps2, ps3, i64_w, i32_w]; rfl
 refine one_ (i := 4) (N := some 6) #[true, true, true, true, true, false, false, false] rfl rfl (one_of HT_.out (by kernel_rfl)) (by decide) (fun K hK => ?_)
 refine value_ (w1 := ?_) (v := ?_) (by rfl) rfl ?_ ?_
 rotate_left 2
 · go_simp
   constructor
   · rfl
   · rfl
 refine hK.out _ _ ⟨(blk_cell (blk_alloc BM.out _) 0).trans rfl, (blk_cell (blk_alloc BM.out _) 1).trans rfl, (blk_cell (blk_alloc BM.out _) 2).trans rfl, (blk_cell (blk_alloc BM.out _) 3).trans rfl, (blk_cell (blk_alloc BM.out _) 4).trans rfl, (blk_cell (blk_alloc BR.out _) 0).trans rfl⟩ (fun hHeld => ?_)
 clear hK K; refine norm_ (a' := ?_) ?_ ?_; rotate_left
 · show Act.put _ (some 6) _ = _
   simp only [Act.put, ps1, ps2, ps3, i64_w, i32_w]; rfl
 refine one_ (i := 5) (N := some 7) #[true, true, true, true, true, true, false, false] rfl rfl (one_of HT_.out (by kernel_rfl)) (by decide) (fun K hK => ?_)
 refine Kd.R_append_step (Kd.int .i64) (w0 := w0) w0.heap.size (by rfl) (.tmp 3) (.tmp 6) 25 3 (.int .i64 0) 8 rfl Try.underlying25 (by kernel_rfl) rfl (by decide) (by omega) v4 l4 n [.int .i64 n] (fun k_ => some k_ ≠ v0.ownBlock) (fun _ => False) rfl rfl ?aP (fun _ hk => hk.elim) ?aF ?aO ?aB ?aS ?aL ?_
 (case aP => exact rfl)
 (case aB => exact HB.out)
 (case aF => exact (fun k_ hk => Kd.fresh' (Kd.R_lt HO0.out) k_ hk))
 (case aO => exact HO4.out)
 (case aS => exact below_size HB.out)
 (case aL => have := LM.out; omega)
 intro v206 w22 ho hb hg hat; have HOa := Aside0.mk ho; have HOb := Aside0.mk (Kd.R_after (ok := (fun _ => True)) (Kd.R_mono HO0.out (fun _ hk => ⟨trivial, hk⟩)) hg hat); have n0_ := Aside0.mk (blk_grown BZ.out hg (Kd.R_ne HO4.out BZ.out (by decide))); have n1_ := Aside0.mk (blk_grown BM.out hg (Kd.R_ne HO4.out BM.out (by decide))); have n2_ := Aside0.mk (blk_grown BR.out hg (Kd.R_ne HO4.out BR.out (by decide))); have n3_ := Aside0.mk (IsS71.grown HI.out hg (IsS71.own_ne HI.out HO4.out (by decide))); have n4_ := Aside0.mk hb; clear HO0 HO4 BZ BM BR HI HB ho hb hg hat hHeld; have BZ := n0_; have BM := n1_; have BR := n2_; have HI := n3_; have HB := n4_; clear n0_ n1_ n2_ n3_ n4_; obtain ⟨Ao, co, eo⟩ := Kd.R_slice HOa.out; rw [show (l4 ++ [n]).length = l4.length + 1 by simp] at eo; subst eo; refine hK.out _ _ ⟨bc0 BM, bc1 BM, bc2 BM, bc3 BM, bc4 BM, bc0 BR⟩ (fun hHeld => ?_)
 clear hK K; refine norm_ (a' := ?_) ?_ ?_; rotate_left
 · show Act.put _ (some 7) _ = _
   simp only [Act.put, ps1, ps2, ps3, i64_w, i32_w]; rfl
 refine pure_ (i := 6) (N := some 8) (v := ?_) (a' := ?_) #[true, true, true, true, true, true, true, false] rfl rfl (any_of HT_.out (by kernel_rfl)) (fun _ _ _ h => h) (Or.inl ⟨by rfl, ?_⟩) ?_ ?_
 rotate_left
 · intro w'; go_simp; with_reducible rfl
 rotate_left
 · simp only [Act.put, ps1, ps2, ps3, i64_w, i32_w]; rfl
 refine last_ (i := 7) (N := none) #[true, true, true, true, true, true, true, true] rfl rfl (one_of HT_.out (by kernel_rfl)) (by decide) (fun K hK => ?_)
 have hs24 := bc4 BM; have hfs24 := bf BM 4; refine skip_ (w1 := ?_) (by rfl) rfl ?_ ?_
 rotate_left
 · go_simp; rfl
 refine hK.out _ _ ?_
 clear hK K; refine done_ (done_of HT_.out (by kernel_rfl)) ?_
 try go_wp2
 go_end0
 have NR : gr ≠ gm := blk_ne BR.out BM.out (by decide); have NG : g ≠ gm := blk_ne HI.out.1 BM.out (by decide); exact ⟨by first | rfl | (simp; done), _, ⟨⟨IsS71.far HI.out NG _, below_set HB.out GM.out⟩, ⟨blk_far BZ.out NE.out _, blk_far BR.out NR _, (blk_set BM.out 4 _).trans rfl⟩, ⟨Kd.R_set (Kd.R_mono HOb.out (fun _ h => h.2)) BM.out (by decide) 4 _, Kd.R_set HOa.out BM.out (by decide) 4 _⟩, NE.out, GZ.out, GR.out, GM.out⟩⟩
set_option maxHeartbeats 8000000 in
set_option maxRecDepth 100000 in
theorem rd1.each (k gz g gr gm : Nat) (s : ByteArray) (a : Int) (b : Bool) (v : Value) (v4 : Value) (l4 : List Int) (n1 n2 n3 : Int) (s' : ByteArray) (a' : Int) (b' : Bool) (xs : List Int) (w0 w : World)
 (hM : MS w0 w gz g gr gm s a b v [] n1 n2 n3 v4 l4) (h : rdE.f k s a b = some (s', a', b', xs)) :
 Calls Try.prog 51 #[.pointer (some ⟨g, 0, none⟩), .func (.func 52) #[] #[.pointer (some ⟨gm, 0, none⟩), .pointer (some ⟨gr, 0, none⟩)]] w fun e w' => e = .returned (.tuple #[]) ∧ ∃ v' : Value, MS w0 w' gz g gr gm s' a' b' v' xs n1 n2 n3 v4 l4 := by
 have M := Aside0.mk hM; clear hM
 unfold rdE.f at h
 replace h := Option.bind_eq_some_iff.mp h; obtain ⟨⟨n, s1, a1, b1⟩, A10, h⟩ := h; have A1 := Aside0.mk A10; clear A10; have H' : Aside0 (rdE.l0 k n 0 s1 a1 b1 [] = some (s', a', b', xs)) := ⟨h⟩; clear h; go_enter Try.func51, Try.ntmps51
 go_wp2_with (first | ((with_reducible refine gate_callee (f := 53) rfl ?_); refine goesL_ (some 7) rfl rfl Try.func53 (by kernel_rfl) rfl #[.pointer (some ⟨g, 0, none⟩)] rfl t17_ ?_; refine (impl_reader_num.calls k g s a b n s1 a1 b1 w0 _ M.out.1.1 M.out.1.2 A1.out).mono ?_; rintro e w5 ⟨rfl, hi, hb, hk⟩; refine ⟨_, rfl, ?_⟩; replace M := Aside0.mk (M.out.keep hi hb hk); clear hi hb hk))
 go_loopg [5] k (fun kq v5 w' => ∃ (i : Int) (s2 : ByteArray) (a2 : Int) (b2 : Bool) (xs2 : List Int) (v2 : Value), v5 = .int .i64 i ∧ Aside0 (rdE.l0 kq n i s2 a2 b2 xs2 = some (s', a', b', xs)) ∧ Aside0 (kq ≤ k) ∧ Aside0 (MS w0 w' gz g gr gm s2 a2 b2 v2 xs2 n1 n2 n3 v4 l4))
 case atStart => exact ⟨0, s1, a1, b1, [], v, t14_, H', ⟨Nat.le_refl _⟩, M⟩
 case round =>
  clear H' M; obtain ⟨i, s2, a2, b2, xs2, v2, rfl, HA, HK1, M⟩ := hrel
  cases gk with
  | zero => exact absurd HA.out (by simp [rdE.l0])
  | succ k1 =>
   have H := HA.out; clear HA; simp only [rdE.l0] at H; have hcr := M.out.1.1.1; have hc0 := cellS71_0 hcr; have hc1 := cellS71_1 hcr; have hc2 := cellS71_2 hcr; clear hcr; by_cases c1 : i < n
   · rw [if_pos c1] at H; have c1b : decide (i < n) = true := decide_eq_true c1; clear c1
     cases b2 with
     | true =>
      rw [if_pos rfl] at H; simp only [Option.some.injEq, Prod.mk.injEq] at H; obtain ⟨rfl, rfl, rfl, rfl⟩ := H; go_wp2
      go_end0
      exact ⟨by first | rfl | (simp; done), _, M.out⟩
     | false =>
      rw [if_neg (by decide)] at H; replace H := Option.bind_eq_some_iff.mp H; obtain ⟨⟨n4, s3, a3, b3⟩, A20, H⟩ := H; have A2 := Aside0.mk A20; clear A20; by_cases c2 : xs2.length < 17592186044416
      rotate_left
      · rw [if_neg c2] at H; exact absurd H (by simp)
      rw [if_pos c2] at H; have LM := Aside0.mk c2; clear c2; have H' : Aside0 (rdE.l0 k1 n (wrap64 (i + 1)) s3 a3 b3 (xs2 ++ [n4]) = some (s', a', b', xs)) := ⟨H⟩; clear H
      go_wp2_with ((with_reducible refine gate_dst (N := 21) rfl ?_); refine goesF (some 21) rfl rfl Try.func52 (by kernel_rfl) rfl #[.pointer (some ⟨gm, 0, none⟩), .pointer (some ⟨gr, 0, none⟩)] rfl rfl ?_; refine (rd1.calls k1 gz g gr gm s2 a2 false v2 xs2 n1 n2 n3 v4 l4 n4 s3 a3 b3 w0 _ M.out A2.out LM.out).mono ?_; rintro e w7 ⟨rfl, v3, hM⟩; refine ⟨_, rfl, ?_⟩; replace M := Aside0.mk hM; clear hM hc0 hc1 hc2)
      go_roundg k1
      case measure => have := HK1.out; omega
      case rel => exact ⟨wrap64 (i + 1), s3, a3, b3, xs2 ++ [n4], v3, t14_, H', ⟨by have := HK1.out; omega⟩, M⟩
   · rw [if_neg c1] at H; have c1b : decide (i < n) = false := decide_eq_false c1; clear c1; simp only [Option.some.injEq, Prod.mk.injEq] at H; obtain ⟨rfl, rfl, rfl, rfl⟩ := H; go_wp2
     go_end0
     exact ⟨by first | rfl | (simp; done), _, M.out⟩
set_option maxHeartbeats 8000000 in
set_option maxRecDepth 100000 in
theorem rd2.each (k gz g gr gm : Nat) (s : ByteArray) (a : Int) (b : Bool) (v : Value) (v0 : Value) (l0 : List Int) (n1 n2 n3 : Int) (s' : ByteArray) (a' : Int) (b' : Bool) (xs : List Int) (w0 w : World)
 (hM : MS w0 w gz g gr gm s a b v0 l0 n1 n2 n3 v []) (h : rdE.f k s a b = some (s', a', b', xs)) :
 Calls Try.prog 51 #[.pointer (some ⟨g, 0, none⟩), .func (.func 54) #[] #[.pointer (some ⟨gm, 0, none⟩), .pointer (some ⟨gr, 0, none⟩)]] w fun e w' => e = .returned (.tuple #[]) ∧ ∃ v' : Value, MS w0 w' gz g gr gm s' a' b' v0 l0 n1 n2 n3 v' xs := by
 have M := Aside0.mk hM; clear hM
 unfold rdE.f at h
 replace h := Option.bind_eq_some_iff.mp h; obtain ⟨⟨n, s1, a1, b1⟩, A10, h⟩ := h; have A1 := Aside0.mk A10; clear A10; have H' : Aside0 (rdE.l0 k n 0 s1 a1 b1 [] = some (s', a', b', xs)) := ⟨h⟩; clear h; go_enter Try.func51, Try.ntmps51
 go_wp2_with (first | ((with_reducible refine gate_callee (f := 53) rfl ?_); refine goesL_ (some 7) rfl rfl Try.func53 (by kernel_rfl) rfl #[.pointer (some ⟨g, 0, none⟩)] rfl t17_ ?_; refine (impl_reader_num.calls k g s a b n s1 a1 b1 w0 _ M.out.1.1 M.out.1.2 A1.out).mono ?_; rintro e w5 ⟨rfl, hi, hb, hk⟩; refine ⟨_, rfl, ?_⟩; replace M := Aside0.mk (M.out.keep hi hb hk); clear hi hb hk))
 go_loopg [5] k (fun kq v5 w' => ∃ (i : Int) (s2 : ByteArray) (a2 : Int) (b2 : Bool) (xs2 : List Int) (v2 : Value), v5 = .int .i64 i ∧ Aside0 (rdE.l0 kq n i s2 a2 b2 xs2 = some (s', a', b', xs)) ∧ Aside0 (kq ≤ k) ∧ Aside0 (MS w0 w' gz g gr gm s2 a2 b2 v0 l0 n1 n2 n3 v2 xs2))
 case atStart => exact ⟨0, s1, a1, b1, [], v, t14_, H', ⟨Nat.le_refl _⟩, M⟩
 case round =>
  clear H' M; obtain ⟨i, s2, a2, b2, xs2, v2, rfl, HA, HK1, M⟩ := hrel
  cases gk with
  | zero => exact absurd HA.out (by simp [rdE.l0])
  | succ k1 =>
   have H := HA.out; clear HA; simp only [rdE.l0] at H; have hcr := M.out.1.1.1; have hc0 := cellS71_0 hcr; have hc1 := cellS71_1 hcr; have hc2 := cellS71_2 hcr; clear hcr; by_cases c1 : i < n
   · rw [if_pos c1] at H; have c1b : decide (i < n) = true := decide_eq_true c1; clear c1
     cases b2 with
     | true =>
      rw [if_pos rfl] at H; simp only [Option.some.injEq, Prod.mk.injEq] at H; obtain ⟨rfl, rfl, rfl, rfl⟩ := H; go_wp2
      go_end0
      exact ⟨by first | rfl | (simp; done), _, M.out⟩
     | false =>
      rw [if_neg (by decide)] at H; replace H := Option.bind_eq_some_iff.mp H; obtain ⟨⟨n4, s3, a3, b3⟩, A20, H⟩ := H; have A2 := Aside0.mk A20; clear A20; by_cases c2 : xs2.length < 17592186044416
      rotate_left
      · rw [if_neg c2] at H; exact absurd H (by simp)
      rw [if_pos c2] at H; have LM := Aside0.mk c2; clear c2; have H' : Aside0 (rdE.l0 k1 n (wrap64 (i + 1)) s3 a3 b3 (xs2 ++ [n4]) = some (s', a', b', xs)) := ⟨H⟩; clear H
      go_wp2_with ((with_reducible refine gate_dst (N := 21) rfl ?_); refine goesF (some 21) rfl rfl Try.func54 (by kernel_rfl) rfl #[.pointer (some ⟨gm, 0, none⟩), .pointer (some ⟨gr, 0, none⟩)] rfl rfl ?_; refine (rd2.calls k1 gz g gr gm s2 a2 false v0 l0 n1 n2 n3 v2 xs2 n4 s3 a3 b3 w0 _ M.out A2.out LM.out).mono ?_; rintro e w7 ⟨rfl, v3, hM⟩; refine ⟨_, rfl, ?_⟩; replace M := Aside0.mk hM; clear hM hc0 hc1 hc2)
      go_roundg k1
      case measure => have := HK1.out; omega
      case rel => exact ⟨wrap64 (i + 1), s3, a3, b3, xs2 ++ [n4], v3, t14_, H', ⟨by have := HK1.out; omega⟩, M⟩
   · rw [if_neg c1] at H; have c1b : decide (i < n) = false := decide_eq_false c1; clear c1; simp only [Option.some.injEq, Prod.mk.injEq] at H; obtain ⟨rfl, rfl, rfl, rfl⟩ := H; go_wp2
     go_end0
     exact ⟨by first | rfl | (simp; done), _, M.out⟩
theorem put5 {W : World} {g : Nat} {t : TypeId} {c0 c1 c2 c3 c4 x0 x1 x2 x3 x4 : Value} (h : W.heap[g]? = some (.cells #[c0, c1, c2, c3, c4] t (0, 0))) :
 (((((W.setCell ⟨g, 0, none⟩ x0).setCell ⟨g, 1, none⟩ x1).setCell ⟨g, 2, none⟩ x2).setCell ⟨g, 3, none⟩ x3).setCell ⟨g, 4, none⟩ x4).heap[g]? = some (.cells #[x0, x1, x2, x3, x4] t (0, 0)) :=
 (blk_set (cs := #[x0, x1, x2, x3, c4]) ((blk_set (cs := #[x0, x1, x2, c3, c4]) ((blk_set (cs := #[x0, x1, c2, c3, c4]) ((blk_set (cs := #[x0, c1, c2, c3, c4]) ((blk_set h 0 x0).trans rfl) 1 x1).trans rfl) 2 x2).trans rfl) 3 x3).trans rfl) 4 x4).trans rfl
theorem below5 {w0 W : World} {g : Nat} {x0 x1 x2 x3 x4 : Value} (h : Below w0.heap.size w0 W) (hg : w0.heap.size ≤ g) :
 Below w0.heap.size w0 (((((W.setCell ⟨g, 0, none⟩ x0).setCell ⟨g, 1, none⟩ x1).setCell ⟨g, 2, none⟩ x2).setCell ⟨g, 3, none⟩ x3).setCell ⟨g, 4, none⟩ x4) :=
 below_set (below_set (below_set (below_set (below_set h hg) hg) hg) hg) hg
theorem R_put5 {α : Type} {d : Kd α} {e base : Nat} {ok : Nat → Prop} {W : World} {v : Value} {xs : List α} {g t : Nat} {cells : Array Value} {x0 x1 x2 x3 x4 : Value} (h : d.R e W base ok v xs) (hb : W.heap[g]? = some (.cells cells t (0, 0))) (ht : ∀ q, q ∈ e :: d.E → q ≠ t) :
 d.R e (((((W.setCell ⟨g, 0, none⟩ x0).setCell ⟨g, 1, none⟩ x1).setCell ⟨g, 2, none⟩ x2).setCell ⟨g, 3, none⟩ x3).setCell ⟨g, 4, none⟩ x4) base ok v xs :=
 Kd.R_mono (Kd.R_far (p := ⟨g, 4, none⟩) (Kd.R_far (p := ⟨g, 3, none⟩) (Kd.R_far (p := ⟨g, 2, none⟩) (Kd.R_far (p := ⟨g, 1, none⟩) (Kd.R_far (p := ⟨g, 0, none⟩) (Kd.R_types h hb ht) (fun _ hk => hk.2) x0) (fun _ hk => hk.2) x1) (fun _ hk => hk.2) x2) (fun _ hk => hk.2) x3) (fun _ hk => hk.2) x4) (fun _ hk => hk.1)
theorem MS.zcells {w0 W : World} {gz g gr gm : Nat} {s : ByteArray} {a : Int} {b : Bool} {v0 v4 : Value} {l0 l4 : List Int} {n1 n2 n3 : Int} (h : MS w0 W gz g gr gm s a b v0 l0 n1 n2 n3 v4 l4) : (W.cell? ⟨gz, 0, none⟩ = some (.slice none 0 0) ∧ W.cell? ⟨gz, 1, none⟩ = some (.int .i64 0) ∧ W.cell? ⟨gz, 2, none⟩ = some (.int .i64 0) ∧ W.cell? ⟨gz, 3, none⟩ = some (.int .i64 0) ∧ W.cell? ⟨gz, 4, none⟩ = some (.slice none 0 0)) ∧
 (W.frozen? ⟨gz, 0, none⟩ = false ∧ W.frozen? ⟨gz, 1, none⟩ = false ∧ W.frozen? ⟨gz, 2, none⟩ = false ∧ W.frozen? ⟨gz, 3, none⟩ = false ∧ W.frozen? ⟨gz, 4, none⟩ = false) := by
 have hm := h.2.1.1; exact ⟨⟨(blk_cell hm 0).trans rfl, (blk_cell hm 1).trans rfl, (blk_cell hm 2).trans rfl, (blk_cell hm 3).trans rfl, (blk_cell hm 4).trans rfl⟩, ⟨blk_frozen hm 0, blk_frozen hm 1, blk_frozen hm 2, blk_frozen hm 3, blk_frozen hm 4⟩⟩
def impl_ReadManifest.f (k : Nat) (a0 : ByteArray) : Option (List Int × Int × Int × Int × List Int × Bool) := (impl_Unsealed.f k a0).bind fun u => (if u.2 = true then ((rdE.f k u.1 0 false).bind fun e1 => ((impl_reader_num.f k e1.1 e1.2.1 e1.2.2.1).bind fun m1 => ((impl_reader_num.f k m1.2.1 m1.2.2.1 m1.2.2.2).bind fun m2 => ((impl_reader_num.f k m2.2.1 m2.2.2.1 m2.2.2.2).bind fun m3 => ((rdE.f k m3.2.1 m3.2.2.1 m3.2.2.2).bind fun e2 => ((impl_reader_done.f e2.1 e2.2.1 e2.2.2.1).bind fun d => (if d.1 = true then ((impl_ManifestOk.f k e1.2.2.2 m1.1 m2.1 m3.1 e2.2.2.2).bind fun t => (if t = true then (some (e1.2.2.2, m1.1, m2.1, m3.1, e2.2.2.2, true)) else (some (([] : List Int), 0, 0, 0, ([] : List Int), false)))) else (some (([] : List Int), 0, 0, 0, ([] : List Int), false))))))))) else (some (([] : List Int), 0, 0, 0, ([] : List Int), false)))
theorem impl_ReadManifest.mono : ∀ a0 k, LeO (impl_ReadManifest.f k a0) (impl_ReadManifest.f (k + 1) a0) := by
 intro a0 k
 unfold impl_ReadManifest.f
 repeat' first
 | (with_reducible exact impl_Unsealed.mono _ _)
 | (with_reducible exact impl_ManifestOk.mono _ _ _ _ _ _)
 | (with_reducible exact rdE.mono _ _ _ _)
 | (with_reducible exact impl_reader_num.mono _ _ _ _)
 | (with_reducible exact LeO.refl _)
 | (with_reducible exact LeO.none _)
 | (with_reducible refine LeO.ite ?_ ?_)
 | (with_reducible refine LeO.bind ?_ (fun _ => ?_))
set_option maxHeartbeats 8000000 in
set_option maxRecDepth 100000 in
theorem impl_ReadManifest.calls (k : Nat) (a0 : ByteArray) (r1 : List Int) (r2 : Int) (r3 : Int) (r4 : Int) (r5 : List Int) (r6 : Bool) (w : World) (h : impl_ReadManifest.f k a0 = some (r1, r2, r3, r4, r5, r6)) :
 Calls Try.prog 22 #[.string a0] w fun e w' => ∃ v0_ v4_ : Value, e = .returned (.tuple #[.agg #[v0_, .int .i64 r2, .int .i64 r3, .int .i64 r4, v4_], .bool r6]) ∧ Kd.R (Kd.int .i64) 3 w' w.heap.size (fun k_ => some k_ ≠ (v4_ : Value).ownBlock) v0_ r1 ∧ Kd.R (Kd.int .i64) 3 w' w.heap.size (fun k_ => some k_ ≠ (v0_ : Value).ownBlock) v4_ r5 ∧ Below w.heap.size w w' := by
 have hu36 := Try.underlying36; have hu71 := Try.underlying71; have hu69 := Try.underlying69; have HB := Aside0.mk (Below.refl w.heap.size w)
 unfold impl_ReadManifest.f at h
 replace h := Option.bind_eq_some_iff.mp h; obtain ⟨⟨u1, u2⟩, A10, h⟩ := h; have A1 := Aside0.mk A10; clear A10
 cases u2 with
 | false =>
  rw [if_neg (by simp)] at h; simp only [Option.some.injEq, Prod.mk.injEq] at h; obtain ⟨rfl, rfl, rfl, rfl, rfl, rfl⟩ := h; go_enter Try.func22, Try.ntmps22
  go_wp2_with (first | ((with_reducible refine gate_dst (N := 2) rfl ?_); refine boxE (N := 2) (cs := #[.slice none 0 0, .int .i64 0, .int .i64 0, .int .i64 0, .slice none 0 0]) (t := 36) (h := ?_); intro gz hg w5 hbox hb; have BZ := Aside0.mk hbox; have GZ := Aside0.mk (show w.heap.size ≤ gz from by rw [hg]; exact HB.out.size); replace HB := Aside0.mk (below_step HB.out hb); clear hb hbox hg) | ((with_reducible refine gate_callee (f := 13) rfl ?_); refine goesL_ (some 10) rfl rfl Try.func13 (by kernel_rfl) rfl #[.string a0] rfl t17_ ?_; (with_reducible refine (impl_Unsealed.calls k a0 u1 false _ A1.out).mono ?_); rintro e w6 ⟨rfl, hb⟩; refine ⟨_, rfl, ?_⟩; replace BZ := Aside0.mk (blk_below BZ.out hb); replace HB := Aside0.mk (below_step HB.out hb); clear hb; have hz0 := (blk_cell BZ.out 0).trans rfl; have hy0 := blk_frozen BZ.out 0; have hz1 := (blk_cell BZ.out 1).trans rfl; have hy1 := blk_frozen BZ.out 1; have hz2 := (blk_cell BZ.out 2).trans rfl; have hy2 := blk_frozen BZ.out 2; have hz3 := (blk_cell BZ.out 3).trans rfl; have hy3 := blk_frozen BZ.out 3; have hz4 := (blk_cell BZ.out 4).trans rfl; have hy4 := blk_frozen BZ.out 4))
  refine bodyPost_ret (results_ct rfl _ _ gz 36 #[.slice none 0 0, .int .i64 0, .int .i64 0, .int .i64 0, .slice none 0 0] (0, 0) _ rfl (put5 BZ.out) hu36 rfl (by kernel_rfl)) rfl ?_
  exact ⟨_, _, rfl, Kd.R_nil _ _ _ _ _, Kd.R_nil _ _ _ _ _, below5 HB.out GZ.out⟩
 | true =>
  rw [if_pos rfl] at h; replace h := Option.bind_eq_some_iff.mp h; obtain ⟨⟨s1, a1, b1, xs1⟩, A20, h⟩ := h; have A2 := Aside0.mk A20; clear A20; replace h := Option.bind_eq_some_iff.mp h; obtain ⟨⟨n1, s2, a2, b2⟩, A30, h⟩ := h; have A3 := Aside0.mk A30; clear A30; replace h := Option.bind_eq_some_iff.mp h; obtain ⟨⟨n2, s3, a3, b3⟩, A40, h⟩ := h; have A4 := Aside0.mk A40; clear A40; replace h := Option.bind_eq_some_iff.mp h; obtain ⟨⟨n3, s4, a4, b4⟩, A50, h⟩ := h; have A5 := Aside0.mk A50; clear A50; replace h := Option.bind_eq_some_iff.mp h; obtain ⟨⟨s5, a5, b5, xs2⟩, A60, h⟩ := h; have A6 := Aside0.mk A60; clear A60; replace h := Option.bind_eq_some_iff.mp h; obtain ⟨⟨d1, s6, a6, b6⟩, A70, h⟩ := h; have A7 := Aside0.mk A70; clear A70
  cases d1 with
  | false =>
   rw [if_neg (by simp)] at h; simp only [Option.some.injEq, Prod.mk.injEq] at h; obtain ⟨rfl, rfl, rfl, rfl, rfl, rfl⟩ := h; go_enter Try.func22, Try.ntmps22
   go_wp2_with (first | ((with_reducible refine gate_dst (N := 2) rfl ?_); refine boxE (N := 2) (cs := #[.slice none 0 0, .int .i64 0, .int .i64 0, .int .i64 0, .slice none 0 0]) (t := 36) (h := ?_); intro gz hg w5 hbox hb; have BZ := Aside0.mk hbox; have GZ := Aside0.mk (show w.heap.size ≤ gz from by rw [hg]; exact HB.out.size); replace HB := Aside0.mk (below_step HB.out hb); clear hb hbox hg) | ((with_reducible refine gate_callee (f := 13) rfl ?_); refine goesL_ (some 10) rfl rfl Try.func13 (by kernel_rfl) rfl #[.string a0] rfl t17_ ?_; (with_reducible refine (impl_Unsealed.calls k a0 u1 true _ A1.out).mono ?_); rintro e w6 ⟨rfl, hb⟩; refine ⟨_, rfl, ?_⟩; replace BZ := Aside0.mk (blk_below BZ.out hb); replace HB := Aside0.mk (below_step HB.out hb); clear hb) | ((with_reducible refine gate_dst (N := 6) rfl ?_); refine boxE (N := 6) (cs := #[.slice none 0 0, .int .i64 0, .int .i64 0, .int .i64 0, .slice none 0 0]) (t := 36) (h := ?_); intro gm hg w7 hbox hb; have NE := Aside0.mk (show gz ≠ gm from by rw [hg]; exact Nat.ne_of_lt (blk_lt BZ.out)); have BM := Aside0.mk hbox; have GM := Aside0.mk (show w.heap.size ≤ gm from by rw [hg]; exact HB.out.size); replace BZ := Aside0.mk (blk_below BZ.out hb); replace HB := Aside0.mk (below_step HB.out hb); clear hb hbox hg) | ((with_reducible refine gate_dst (N := 18) rfl ?_); refine boxE (N := 18) (cs := #[.string u1, .int .i64 0, .bool false]) (t := 71) (h := ?_); intro g hg w8 hbox hb; have HI := Aside0.mk (show IsS71 w w8 g u1 0 false from ⟨hbox, (by rw [hg]; exact HB.out.size)⟩); replace BZ := Aside0.mk (blk_below BZ.out hb); replace BM := Aside0.mk (blk_below BM.out hb); replace HB := Aside0.mk (below_step HB.out hb); clear hb hbox hg) | ((with_reducible refine gate_dst (N := 7) rfl ?_); refine boxE (N := 7) (cs := #[.pointer none]) (t := 69) (h := ?_); intro gr hg w9 hbox hb; have BR := Aside0.mk hbox; have GR := Aside0.mk (show w.heap.size ≤ gr from by rw [hg]; exact HB.out.size); replace BZ := Aside0.mk (blk_below BZ.out hb); replace BM := Aside0.mk (blk_below BM.out hb); replace HI := Aside0.mk (IsS71.below HI.out hb); replace HB := Aside0.mk (below_step HB.out hb); clear hb hbox hg; have hr0 := (blk_cell BR.out 0).trans rfl; have hrf := blk_frozen BR.out 0) | ((with_reducible refine gate_callee (f := 51) rfl ?_); refine goesL_ (some 21) rfl rfl Try.func51 (by kernel_rfl) rfl #[.pointer (some ⟨g, 0, none⟩), .func (.func 52) #[] #[.pointer (some ⟨gm, 0, none⟩), .pointer (some ⟨gr, 0, none⟩)]] rfl t17_ ?_; refine (rd1.each k gz g gr gm u1 0 false (.slice none 0 0) (.slice none 0 0) [] 0 0 0 s1 a1 b1 xs1 w _ ?hM A2.out).mono ?_; (case hM => exact ⟨⟨IsS71.far HI.out (blk_ne HI.out.1 BR.out (by decide)) _, below_set HB.out GR.out⟩, ⟨blk_far BZ.out (blk_ne BZ.out BR.out (by decide)) _, (blk_set BR.out 0 _).trans rfl, blk_far BM.out (blk_ne BM.out BR.out (by decide)) _⟩, ⟨Kd.R_nil _ _ _ _ _, Kd.R_nil _ _ _ _ _⟩, NE.out, GZ.out, GR.out, GM.out⟩); rintro e w10 ⟨rfl, v0, hM⟩; refine ⟨_, rfl, ?_⟩; have M := Aside0.mk hM; have hn1 : gr ≠ gm := blk_ne M.out.2.1.2.1 M.out.2.1.2.2 (by decide); have hn2 : gm ≠ gr := hn1.symm; have hn3 : gz ≠ gm := NE.out; have hn4 : gm ≠ gz := hn3.symm; clear hM HB BZ BM BR HI hr0 hrf; obtain ⟨⟨hcr, hfr⟩, ⟨hm0, hm1, hm2, hm3, hm4⟩, ⟨hg0, hg1, hg2, hg3, hg4⟩⟩ := M.out.cells; obtain ⟨⟨hz0, hz1, hz2, hz3, hz4⟩, ⟨hy0, hy1, hy2, hy3, hy4⟩⟩ := M.out.zcells) | ((with_reducible refine gate_callee (f := 53) rfl ?_); refine goesL_ (some 23) rfl rfl Try.func53 (by kernel_rfl) rfl #[.pointer (some ⟨g, 0, none⟩)] rfl t17_ ?_; refine (impl_reader_num.calls k g s1 a1 b1 n1 s2 a2 b2 w _ (M.out).1.1 (M.out).1.2 A3.out).mono ?_; rintro e w12 ⟨rfl, hi, hb, hk⟩; refine ⟨_, rfl, ?_⟩; replace M := Aside0.mk ((M.out).keep hi hb hk); clear hi hb hk; clear hcr hfr hm0 hm1 hm2 hm3 hm4 hg0 hg1 hg2 hg3 hg4 hz0 hz1 hz2 hz3 hz4 hy0 hy1 hy2 hy3 hy4; obtain ⟨⟨hcr, hfr⟩, ⟨hm0, hm1, hm2, hm3, hm4⟩, ⟨hg0, hg1, hg2, hg3, hg4⟩⟩ := M.out.cells; obtain ⟨⟨hz0, hz1, hz2, hz3, hz4⟩, ⟨hy0, hy1, hy2, hy3, hy4⟩⟩ := M.out.zcells) | ((with_reducible refine gate_callee (f := 53) rfl ?_); refine goesL_ (some 26) rfl rfl Try.func53 (by kernel_rfl) rfl #[.pointer (some ⟨g, 0, none⟩)] rfl t17_ ?_; refine (impl_reader_num.calls k g s2 a2 b2 n2 s3 a3 b3 w _ (M.out.set1 n1).1.1 (M.out.set1 n1).1.2 A4.out).mono ?_; rintro e w13 ⟨rfl, hi, hb, hk⟩; refine ⟨_, rfl, ?_⟩; replace M := Aside0.mk ((M.out.set1 n1).keep hi hb hk); clear hi hb hk; clear hcr hfr hm0 hm1 hm2 hm3 hm4 hg0 hg1 hg2 hg3 hg4 hz0 hz1 hz2 hz3 hz4 hy0 hy1 hy2 hy3 hy4; obtain ⟨⟨hcr, hfr⟩, ⟨hm0, hm1, hm2, hm3, hm4⟩, ⟨hg0, hg1, hg2, hg3, hg4⟩⟩ := M.out.cells; obtain ⟨⟨hz0, hz1, hz2, hz3, hz4⟩, ⟨hy0, hy1, hy2, hy3, hy4⟩⟩ := M.out.zcells) | ((with_reducible refine gate_callee (f := 53) rfl ?_); refine goesL_ (some 29) rfl rfl Try.func53 (by kernel_rfl) rfl #[.pointer (some ⟨g, 0, none⟩)] rfl t17_ ?_; refine (impl_reader_num.calls k g s3 a3 b3 n3 s4 a4 b4 w _ (M.out.set2 n2).1.1 (M.out.set2 n2).1.2 A5.out).mono ?_; rintro e w14 ⟨rfl, hi, hb, hk⟩; refine ⟨_, rfl, ?_⟩; replace M := Aside0.mk ((M.out.set2 n2).keep hi hb hk); clear hi hb hk; clear hcr hfr hm0 hm1 hm2 hm3 hm4 hg0 hg1 hg2 hg3 hg4 hz0 hz1 hz2 hz3 hz4 hy0 hy1 hy2 hy3 hy4; obtain ⟨⟨hcr, hfr⟩, ⟨hm0, hm1, hm2, hm3, hm4⟩, ⟨hg0, hg1, hg2, hg3, hg4⟩⟩ := M.out.cells; obtain ⟨⟨hz0, hz1, hz2, hz3, hz4⟩, ⟨hy0, hy1, hy2, hy3, hy4⟩⟩ := M.out.zcells) | ((with_reducible refine gate_callee (f := 51) rfl ?_); refine goesL_ (some 33) rfl rfl Try.func51 (by kernel_rfl) rfl #[.pointer (some ⟨g, 0, none⟩), .func (.func 54) #[] #[.pointer (some ⟨gm, 0, none⟩), .pointer (some ⟨gr, 0, none⟩)]] rfl t17_ ?_; refine (rd2.each k gz g gr gm s4 a4 b4 (.slice none 0 0) v0 xs1 n1 n2 n3 s5 a5 b5 xs2 w _ ?hM A6.out).mono ?_; (case hM => exact M.out.set3 n3); rintro e w15 ⟨rfl, v4, hM⟩; refine ⟨_, rfl, ?_⟩; replace M := Aside0.mk hM; clear hM; clear hcr hfr hm0 hm1 hm2 hm3 hm4 hg0 hg1 hg2 hg3 hg4 hz0 hz1 hz2 hz3 hz4 hy0 hy1 hy2 hy3 hy4; obtain ⟨⟨hcr, hfr⟩, ⟨hm0, hm1, hm2, hm3, hm4⟩, ⟨hg0, hg1, hg2, hg3, hg4⟩⟩ := M.out.cells; obtain ⟨⟨hz0, hz1, hz2, hz3, hz4⟩, ⟨hy0, hy1, hy2, hy3, hy4⟩⟩ := M.out.zcells) | ((with_reducible refine gate_callee (f := 55) rfl ?_); refine goesL_ (some 35) rfl rfl Try.func55 (by kernel_rfl) rfl #[.pointer (some ⟨g, 0, none⟩)] rfl t17_ ?_; refine (impl_reader_done.calls g s5 a5 b5 false s6 a6 b6 w _ M.out.1.1 M.out.1.2 A7.out).mono ?_; rintro e w16 ⟨rfl, hi, hb, hk⟩; refine ⟨_, rfl, ?_⟩; replace M := Aside0.mk (M.out.keep hi hb hk); clear hi hb hk; clear hcr hfr hm0 hm1 hm2 hm3 hm4 hg0 hg1 hg2 hg3 hg4 hz0 hz1 hz2 hz3 hz4 hy0 hy1 hy2 hy3 hy4; obtain ⟨Ao, co, eo⟩ := Kd.R_slice M.out.2.2.1.1; subst eo; obtain ⟨Ap, cp, ep⟩ := Kd.R_slice M.out.2.2.1.2; subst ep; obtain ⟨⟨hcr, hfr⟩, ⟨hm0, hm1, hm2, hm3, hm4⟩, ⟨hg0, hg1, hg2, hg3, hg4⟩⟩ := M.out.cells; obtain ⟨⟨hz0, hz1, hz2, hz3, hz4⟩, ⟨hy0, hy1, hy2, hy3, hy4⟩⟩ := M.out.zcells))
   refine bodyPost_ret (results_ct rfl _ _ gz 36 #[.slice none 0 0, .int .i64 0, .int .i64 0, .int .i64 0, .slice none 0 0] (0, 0) _ rfl (put5 M.out.2.1.1) hu36 rfl (by kernel_rfl)) rfl ?_
   exact ⟨_, _, rfl, Kd.R_nil _ _ _ _ _, Kd.R_nil _ _ _ _ _, below5 M.out.1.2 GZ.out⟩
  | true =>
   rw [if_pos rfl] at h; replace h := Option.bind_eq_some_iff.mp h; obtain ⟨t, A80, h⟩ := h; have A8 := Aside0.mk A80; clear A80
   cases t with
   | false =>
    rw [if_neg (by simp)] at h; simp only [Option.some.injEq, Prod.mk.injEq] at h; obtain ⟨rfl, rfl, rfl, rfl, rfl, rfl⟩ := h; go_enter Try.func22, Try.ntmps22
    go_wp2_with (first | ((with_reducible refine gate_dst (N := 2) rfl ?_); refine boxE (N := 2) (cs := #[.slice none 0 0, .int .i64 0, .int .i64 0, .int .i64 0, .slice none 0 0]) (t := 36) (h := ?_); intro gz hg w5 hbox hb; have BZ := Aside0.mk hbox; have GZ := Aside0.mk (show w.heap.size ≤ gz from by rw [hg]; exact HB.out.size); replace HB := Aside0.mk (below_step HB.out hb); clear hb hbox hg) | ((with_reducible refine gate_callee (f := 13) rfl ?_); refine goesL_ (some 10) rfl rfl Try.func13 (by kernel_rfl) rfl #[.string a0] rfl t17_ ?_; (with_reducible refine (impl_Unsealed.calls k a0 u1 true _ A1.out).mono ?_); rintro e w6 ⟨rfl, hb⟩; refine ⟨_, rfl, ?_⟩; replace BZ := Aside0.mk (blk_below BZ.out hb); replace HB := Aside0.mk (below_step HB.out hb); clear hb) | ((with_reducible refine gate_dst (N := 6) rfl ?_); refine boxE (N := 6) (cs := #[.slice none 0 0, .int .i64 0, .int .i64 0, .int .i64 0, .slice none 0 0]) (t := 36) (h := ?_); intro gm hg w7 hbox hb; have NE := Aside0.mk (show gz ≠ gm from by rw [hg]; exact Nat.ne_of_lt (blk_lt BZ.out)); have BM := Aside0.mk hbox; have GM := Aside0.mk (show w.heap.size ≤ gm from by rw [hg]; exact HB.out.size); replace BZ := Aside0.mk (blk_below BZ.out hb); replace HB := Aside0.mk (below_step HB.out hb); clear hb hbox hg) | ((with_reducible refine gate_dst (N := 18) rfl ?_); refine boxE (N := 18) (cs := #[.string u1, .int .i64 0, .bool false]) (t := 71) (h := ?_); intro g hg w8 hbox hb; have HI := Aside0.mk (show IsS71 w w8 g u1 0 false from ⟨hbox, (by rw [hg]; exact HB.out.size)⟩); replace BZ := Aside0.mk (blk_below BZ.out hb); replace BM := Aside0.mk (blk_below BM.out hb); replace HB := Aside0.mk (below_step HB.out hb); clear hb hbox hg) | ((with_reducible refine gate_dst (N := 7) rfl ?_); refine boxE (N := 7) (cs := #[.pointer none]) (t := 69) (h := ?_); intro gr hg w9 hbox hb; have BR := Aside0.mk hbox; have GR := Aside0.mk (show w.heap.size ≤ gr from by rw [hg]; exact HB.out.size); replace BZ := Aside0.mk (blk_below BZ.out hb); replace BM := Aside0.mk (blk_below BM.out hb); replace HI := Aside0.mk (IsS71.below HI.out hb); replace HB := Aside0.mk (below_step HB.out hb); clear hb hbox hg; have hr0 := (blk_cell BR.out 0).trans rfl; have hrf := blk_frozen BR.out 0) | ((with_reducible refine gate_callee (f := 51) rfl ?_); refine goesL_ (some 21) rfl rfl Try.func51 (by kernel_rfl) rfl #[.pointer (some ⟨g, 0, none⟩), .func (.func 52) #[] #[.pointer (some ⟨gm, 0, none⟩), .pointer (some ⟨gr, 0, none⟩)]] rfl t17_ ?_; refine (rd1.each k gz g gr gm u1 0 false (.slice none 0 0) (.slice none 0 0) [] 0 0 0 s1 a1 b1 xs1 w _ ?hM A2.out).mono ?_; (case hM => exact ⟨⟨IsS71.far HI.out (blk_ne HI.out.1 BR.out (by decide)) _, below_set HB.out GR.out⟩, ⟨blk_far BZ.out (blk_ne BZ.out BR.out (by decide)) _, (blk_set BR.out 0 _).trans rfl, blk_far BM.out (blk_ne BM.out BR.out (by decide)) _⟩, ⟨Kd.R_nil _ _ _ _ _, Kd.R_nil _ _ _ _ _⟩, NE.out, GZ.out, GR.out, GM.out⟩); rintro e w10 ⟨rfl, v0, hM⟩; refine ⟨_, rfl, ?_⟩; have M := Aside0.mk hM; have hn1 : gr ≠ gm := blk_ne M.out.2.1.2.1 M.out.2.1.2.2 (by decide); have hn2 : gm ≠ gr := hn1.symm; have hn3 : gz ≠ gm := NE.out; have hn4 : gm ≠ gz := hn3.symm; clear hM HB BZ BM BR HI hr0 hrf; obtain ⟨⟨hcr, hfr⟩, ⟨hm0, hm1, hm2, hm3, hm4⟩, ⟨hg0, hg1, hg2, hg3, hg4⟩⟩ := M.out.cells; obtain ⟨⟨hz0, hz1, hz2, hz3, hz4⟩, ⟨hy0, hy1, hy2, hy3, hy4⟩⟩ := M.out.zcells) | ((with_reducible refine gate_callee (f := 53) rfl ?_); refine goesL_ (some 23) rfl rfl Try.func53 (by kernel_rfl) rfl #[.pointer (some ⟨g, 0, none⟩)] rfl t17_ ?_; refine (impl_reader_num.calls k g s1 a1 b1 n1 s2 a2 b2 w _ (M.out).1.1 (M.out).1.2 A3.out).mono ?_; rintro e w12 ⟨rfl, hi, hb, hk⟩; refine ⟨_, rfl, ?_⟩; replace M := Aside0.mk ((M.out).keep hi hb hk); clear hi hb hk; clear hcr hfr hm0 hm1 hm2 hm3 hm4 hg0 hg1 hg2 hg3 hg4 hz0 hz1 hz2 hz3 hz4 hy0 hy1 hy2 hy3 hy4; obtain ⟨⟨hcr, hfr⟩, ⟨hm0, hm1, hm2, hm3, hm4⟩, ⟨hg0, hg1, hg2, hg3, hg4⟩⟩ := M.out.cells; obtain ⟨⟨hz0, hz1, hz2, hz3, hz4⟩, ⟨hy0, hy1, hy2, hy3, hy4⟩⟩ := M.out.zcells) | ((with_reducible refine gate_callee (f := 53) rfl ?_); refine goesL_ (some 26) rfl rfl Try.func53 (by kernel_rfl) rfl #[.pointer (some ⟨g, 0, none⟩)] rfl t17_ ?_; refine (impl_reader_num.calls k g s2 a2 b2 n2 s3 a3 b3 w _ (M.out.set1 n1).1.1 (M.out.set1 n1).1.2 A4.out).mono ?_; rintro e w13 ⟨rfl, hi, hb, hk⟩; refine ⟨_, rfl, ?_⟩; replace M := Aside0.mk ((M.out.set1 n1).keep hi hb hk); clear hi hb hk; clear hcr hfr hm0 hm1 hm2 hm3 hm4 hg0 hg1 hg2 hg3 hg4 hz0 hz1 hz2 hz3 hz4 hy0 hy1 hy2 hy3 hy4; obtain ⟨⟨hcr, hfr⟩, ⟨hm0, hm1, hm2, hm3, hm4⟩, ⟨hg0, hg1, hg2, hg3, hg4⟩⟩ := M.out.cells; obtain ⟨⟨hz0, hz1, hz2, hz3, hz4⟩, ⟨hy0, hy1, hy2, hy3, hy4⟩⟩ := M.out.zcells) | ((with_reducible refine gate_callee (f := 53) rfl ?_); refine goesL_ (some 29) rfl rfl Try.func53 (by kernel_rfl) rfl #[.pointer (some ⟨g, 0, none⟩)] rfl t17_ ?_; refine (impl_reader_num.calls k g s3 a3 b3 n3 s4 a4 b4 w _ (M.out.set2 n2).1.1 (M.out.set2 n2).1.2 A5.out).mono ?_; rintro e w14 ⟨rfl, hi, hb, hk⟩; refine ⟨_, rfl, ?_⟩; replace M := Aside0.mk ((M.out.set2 n2).keep hi hb hk); clear hi hb hk; clear hcr hfr hm0 hm1 hm2 hm3 hm4 hg0 hg1 hg2 hg3 hg4 hz0 hz1 hz2 hz3 hz4 hy0 hy1 hy2 hy3 hy4; obtain ⟨⟨hcr, hfr⟩, ⟨hm0, hm1, hm2, hm3, hm4⟩, ⟨hg0, hg1, hg2, hg3, hg4⟩⟩ := M.out.cells; obtain ⟨⟨hz0, hz1, hz2, hz3, hz4⟩, ⟨hy0, hy1, hy2, hy3, hy4⟩⟩ := M.out.zcells) | ((with_reducible refine gate_callee (f := 51) rfl ?_); refine goesL_ (some 33) rfl rfl Try.func51 (by kernel_rfl) rfl #[.pointer (some ⟨g, 0, none⟩), .func (.func 54) #[] #[.pointer (some ⟨gm, 0, none⟩), .pointer (some ⟨gr, 0, none⟩)]] rfl t17_ ?_; refine (rd2.each k gz g gr gm s4 a4 b4 (.slice none 0 0) v0 xs1 n1 n2 n3 s5 a5 b5 xs2 w _ ?hM A6.out).mono ?_; (case hM => exact M.out.set3 n3); rintro e w15 ⟨rfl, v4, hM⟩; refine ⟨_, rfl, ?_⟩; replace M := Aside0.mk hM; clear hM; clear hcr hfr hm0 hm1 hm2 hm3 hm4 hg0 hg1 hg2 hg3 hg4 hz0 hz1 hz2 hz3 hz4 hy0 hy1 hy2 hy3 hy4; obtain ⟨⟨hcr, hfr⟩, ⟨hm0, hm1, hm2, hm3, hm4⟩, ⟨hg0, hg1, hg2, hg3, hg4⟩⟩ := M.out.cells; obtain ⟨⟨hz0, hz1, hz2, hz3, hz4⟩, ⟨hy0, hy1, hy2, hy3, hy4⟩⟩ := M.out.zcells) | ((with_reducible refine gate_callee (f := 55) rfl ?_); refine goesL_ (some 35) rfl rfl Try.func55 (by kernel_rfl) rfl #[.pointer (some ⟨g, 0, none⟩)] rfl t17_ ?_; refine (impl_reader_done.calls g s5 a5 b5 true s6 a6 b6 w _ M.out.1.1 M.out.1.2 A7.out).mono ?_; rintro e w16 ⟨rfl, hi, hb, hk⟩; refine ⟨_, rfl, ?_⟩; replace M := Aside0.mk (M.out.keep hi hb hk); clear hi hb hk; clear hcr hfr hm0 hm1 hm2 hm3 hm4 hg0 hg1 hg2 hg3 hg4 hz0 hz1 hz2 hz3 hz4 hy0 hy1 hy2 hy3 hy4; obtain ⟨Ao, co, eo⟩ := Kd.R_slice M.out.2.2.1.1; subst eo; obtain ⟨Ap, cp, ep⟩ := Kd.R_slice M.out.2.2.1.2; subst ep; obtain ⟨⟨hcr, hfr⟩, ⟨hm0, hm1, hm2, hm3, hm4⟩, ⟨hg0, hg1, hg2, hg3, hg4⟩⟩ := M.out.cells; obtain ⟨⟨hz0, hz1, hz2, hz3, hz4⟩, ⟨hy0, hy1, hy2, hy3, hy4⟩⟩ := M.out.zcells) | (go_at_call 46; refine (impl_ManifestOk.calls k _ _ xs1 n1 n2 n3 _ _ xs2 false _ ?side1 ?side2 ?side3 ?side4 A8.out).mono ?_; (case side1 => exact (Kd.R_reads' M.out.2.2.1.1).2.2); (case side2 => exact (Kd.R_reads' M.out.2.2.1.1).2.1); (case side3 => exact (Kd.R_reads' M.out.2.2.1.2).2.2); (case side4 => exact (Kd.R_reads' M.out.2.2.1.2).2.1); rintro e w17 ⟨rfl, hb⟩; replace M := Aside0.mk (M.out.below hb); clear hb; clear hcr hfr hm0 hm1 hm2 hm3 hm4 hg0 hg1 hg2 hg3 hg4 hz0 hz1 hz2 hz3 hz4 hy0 hy1 hy2 hy3 hy4; obtain ⟨⟨hcr, hfr⟩, ⟨hm0, hm1, hm2, hm3, hm4⟩, ⟨hg0, hg1, hg2, hg3, hg4⟩⟩ := M.out.cells; obtain ⟨⟨hz0, hz1, hz2, hz3, hz4⟩, ⟨hy0, hy1, hy2, hy3, hy4⟩⟩ := M.out.zcells))
    refine bodyPost_ret (results_ct rfl _ _ gz 36 #[.slice none 0 0, .int .i64 0, .int .i64 0, .int .i64 0, .slice none 0 0] (0, 0) _ rfl (put5 M.out.2.1.1) hu36 rfl (by kernel_rfl)) rfl ?_
    exact ⟨_, _, rfl, Kd.R_nil _ _ _ _ _, Kd.R_nil _ _ _ _ _, below5 M.out.1.2 GZ.out⟩
   | true =>
    rw [if_pos rfl] at h; simp only [Option.some.injEq, Prod.mk.injEq] at h; obtain ⟨rfl, rfl, rfl, rfl, rfl, rfl⟩ := h; go_enter Try.func22, Try.ntmps22
    go_wp2_with (first | ((with_reducible refine gate_dst (N := 2) rfl ?_); refine boxE (N := 2) (cs := #[.slice none 0 0, .int .i64 0, .int .i64 0, .int .i64 0, .slice none 0 0]) (t := 36) (h := ?_); intro gz hg w5 hbox hb; have BZ := Aside0.mk hbox; have GZ := Aside0.mk (show w.heap.size ≤ gz from by rw [hg]; exact HB.out.size); replace HB := Aside0.mk (below_step HB.out hb); clear hb hbox hg) | ((with_reducible refine gate_callee (f := 13) rfl ?_); refine goesL_ (some 10) rfl rfl Try.func13 (by kernel_rfl) rfl #[.string a0] rfl t17_ ?_; (with_reducible refine (impl_Unsealed.calls k a0 u1 true _ A1.out).mono ?_); rintro e w6 ⟨rfl, hb⟩; refine ⟨_, rfl, ?_⟩; replace BZ := Aside0.mk (blk_below BZ.out hb); replace HB := Aside0.mk (below_step HB.out hb); clear hb) | ((with_reducible refine gate_dst (N := 6) rfl ?_); refine boxE (N := 6) (cs := #[.slice none 0 0, .int .i64 0, .int .i64 0, .int .i64 0, .slice none 0 0]) (t := 36) (h := ?_); intro gm hg w7 hbox hb; have NE := Aside0.mk (show gz ≠ gm from by rw [hg]; exact Nat.ne_of_lt (blk_lt BZ.out)); have BM := Aside0.mk hbox; have GM := Aside0.mk (show w.heap.size ≤ gm from by rw [hg]; exact HB.out.size); replace BZ := Aside0.mk (blk_below BZ.out hb); replace HB := Aside0.mk (below_step HB.out hb); clear hb hbox hg) | ((with_reducible refine gate_dst (N := 18) rfl ?_); refine boxE (N := 18) (cs := #[.string u1, .int .i64 0, .bool false]) (t := 71) (h := ?_); intro g hg w8 hbox hb; have HI := Aside0.mk (show IsS71 w w8 g u1 0 false from ⟨hbox, (by rw [hg]; exact HB.out.size)⟩); replace BZ := Aside0.mk (blk_below BZ.out hb); replace BM := Aside0.mk (blk_below BM.out hb); replace HB := Aside0.mk (below_step HB.out hb); clear hb hbox hg) | ((with_reducible refine gate_dst (N := 7) rfl ?_); refine boxE (N := 7) (cs := #[.pointer none]) (t := 69) (h := ?_); intro gr hg w9 hbox hb; have BR := Aside0.mk hbox; have GR := Aside0.mk (show w.heap.size ≤ gr from by rw [hg]; exact HB.out.size); replace BZ := Aside0.mk (blk_below BZ.out hb); replace BM := Aside0.mk (blk_below BM.out hb); replace HI := Aside0.mk (IsS71.below HI.out hb); replace HB := Aside0.mk (below_step HB.out hb); clear hb hbox hg; have hr0 := (blk_cell BR.out 0).trans rfl; have hrf := blk_frozen BR.out 0) | ((with_reducible refine gate_callee (f := 51) rfl ?_); refine goesL_ (some 21) rfl rfl Try.func51 (by kernel_rfl) rfl #[.pointer (some ⟨g, 0, none⟩), .func (.func 52) #[] #[.pointer (some ⟨gm, 0, none⟩), .pointer (some ⟨gr, 0, none⟩)]] rfl t17_ ?_; refine (rd1.each k gz g gr gm u1 0 false (.slice none 0 0) (.slice none 0 0) [] 0 0 0 s1 a1 b1 xs1 w _ ?hM A2.out).mono ?_; (case hM => exact ⟨⟨IsS71.far HI.out (blk_ne HI.out.1 BR.out (by decide)) _, below_set HB.out GR.out⟩, ⟨blk_far BZ.out (blk_ne BZ.out BR.out (by decide)) _, (blk_set BR.out 0 _).trans rfl, blk_far BM.out (blk_ne BM.out BR.out (by decide)) _⟩, ⟨Kd.R_nil _ _ _ _ _, Kd.R_nil _ _ _ _ _⟩, NE.out, GZ.out, GR.out, GM.out⟩); rintro e w10 ⟨rfl, v0, hM⟩; refine ⟨_, rfl, ?_⟩; have M := Aside0.mk hM; have hn1 : gr ≠ gm := blk_ne M.out.2.1.2.1 M.out.2.1.2.2 (by decide); have hn2 : gm ≠ gr := hn1.symm; have hn3 : gz ≠ gm := NE.out; have hn4 : gm ≠ gz := hn3.symm; clear hM HB BZ BM BR HI hr0 hrf; obtain ⟨⟨hcr, hfr⟩, ⟨hm0, hm1, hm2, hm3, hm4⟩, ⟨hg0, hg1, hg2, hg3, hg4⟩⟩ := M.out.cells; obtain ⟨⟨hz0, hz1, hz2, hz3, hz4⟩, ⟨hy0, hy1, hy2, hy3, hy4⟩⟩ := M.out.zcells) | ((with_reducible refine gate_callee (f := 53) rfl ?_); refine goesL_ (some 23) rfl rfl Try.func53 (by kernel_rfl) rfl #[.pointer (some ⟨g, 0, none⟩)] rfl t17_ ?_; refine (impl_reader_num.calls k g s1 a1 b1 n1 s2 a2 b2 w _ (M.out).1.1 (M.out).1.2 A3.out).mono ?_; rintro e w12 ⟨rfl, hi, hb, hk⟩; refine ⟨_, rfl, ?_⟩; replace M := Aside0.mk ((M.out).keep hi hb hk); clear hi hb hk; clear hcr hfr hm0 hm1 hm2 hm3 hm4 hg0 hg1 hg2 hg3 hg4 hz0 hz1 hz2 hz3 hz4 hy0 hy1 hy2 hy3 hy4; obtain ⟨⟨hcr, hfr⟩, ⟨hm0, hm1, hm2, hm3, hm4⟩, ⟨hg0, hg1, hg2, hg3, hg4⟩⟩ := M.out.cells; obtain ⟨⟨hz0, hz1, hz2, hz3, hz4⟩, ⟨hy0, hy1, hy2, hy3, hy4⟩⟩ := M.out.zcells) | ((with_reducible refine gate_callee (f := 53) rfl ?_); refine goesL_ (some 26) rfl rfl Try.func53 (by kernel_rfl) rfl #[.pointer (some ⟨g, 0, none⟩)] rfl t17_ ?_; refine (impl_reader_num.calls k g s2 a2 b2 n2 s3 a3 b3 w _ (M.out.set1 n1).1.1 (M.out.set1 n1).1.2 A4.out).mono ?_; rintro e w13 ⟨rfl, hi, hb, hk⟩; refine ⟨_, rfl, ?_⟩; replace M := Aside0.mk ((M.out.set1 n1).keep hi hb hk); clear hi hb hk; clear hcr hfr hm0 hm1 hm2 hm3 hm4 hg0 hg1 hg2 hg3 hg4 hz0 hz1 hz2 hz3 hz4 hy0 hy1 hy2 hy3 hy4; obtain ⟨⟨hcr, hfr⟩, ⟨hm0, hm1, hm2, hm3, hm4⟩, ⟨hg0, hg1, hg2, hg3, hg4⟩⟩ := M.out.cells; obtain ⟨⟨hz0, hz1, hz2, hz3, hz4⟩, ⟨hy0, hy1, hy2, hy3, hy4⟩⟩ := M.out.zcells) | ((with_reducible refine gate_callee (f := 53) rfl ?_); refine goesL_ (some 29) rfl rfl Try.func53 (by kernel_rfl) rfl #[.pointer (some ⟨g, 0, none⟩)] rfl t17_ ?_; refine (impl_reader_num.calls k g s3 a3 b3 n3 s4 a4 b4 w _ (M.out.set2 n2).1.1 (M.out.set2 n2).1.2 A5.out).mono ?_; rintro e w14 ⟨rfl, hi, hb, hk⟩; refine ⟨_, rfl, ?_⟩; replace M := Aside0.mk ((M.out.set2 n2).keep hi hb hk); clear hi hb hk; clear hcr hfr hm0 hm1 hm2 hm3 hm4 hg0 hg1 hg2 hg3 hg4 hz0 hz1 hz2 hz3 hz4 hy0 hy1 hy2 hy3 hy4; obtain ⟨⟨hcr, hfr⟩, ⟨hm0, hm1, hm2, hm3, hm4⟩, ⟨hg0, hg1, hg2, hg3, hg4⟩⟩ := M.out.cells; obtain ⟨⟨hz0, hz1, hz2, hz3, hz4⟩, ⟨hy0, hy1, hy2, hy3, hy4⟩⟩ := M.out.zcells) | ((with_reducible refine gate_callee (f := 51) rfl ?_); refine goesL_ (some 33) rfl rfl Try.func51 (by kernel_rfl) rfl #[.pointer (some ⟨g, 0, none⟩), .func (.func 54) #[] #[.pointer (some ⟨gm, 0, none⟩), .pointer (some ⟨gr, 0, none⟩)]] rfl t17_ ?_; refine (rd2.each k gz g gr gm s4 a4 b4 (.slice none 0 0) v0 xs1 n1 n2 n3 s5 a5 b5 xs2 w _ ?hM A6.out).mono ?_; (case hM => exact M.out.set3 n3); rintro e w15 ⟨rfl, v4, hM⟩; refine ⟨_, rfl, ?_⟩; replace M := Aside0.mk hM; clear hM; clear hcr hfr hm0 hm1 hm2 hm3 hm4 hg0 hg1 hg2 hg3 hg4 hz0 hz1 hz2 hz3 hz4 hy0 hy1 hy2 hy3 hy4; obtain ⟨⟨hcr, hfr⟩, ⟨hm0, hm1, hm2, hm3, hm4⟩, ⟨hg0, hg1, hg2, hg3, hg4⟩⟩ := M.out.cells; obtain ⟨⟨hz0, hz1, hz2, hz3, hz4⟩, ⟨hy0, hy1, hy2, hy3, hy4⟩⟩ := M.out.zcells) | ((with_reducible refine gate_callee (f := 55) rfl ?_); refine goesL_ (some 35) rfl rfl Try.func55 (by kernel_rfl) rfl #[.pointer (some ⟨g, 0, none⟩)] rfl t17_ ?_; refine (impl_reader_done.calls g s5 a5 b5 true s6 a6 b6 w _ M.out.1.1 M.out.1.2 A7.out).mono ?_; rintro e w16 ⟨rfl, hi, hb, hk⟩; refine ⟨_, rfl, ?_⟩; replace M := Aside0.mk (M.out.keep hi hb hk); clear hi hb hk; clear hcr hfr hm0 hm1 hm2 hm3 hm4 hg0 hg1 hg2 hg3 hg4 hz0 hz1 hz2 hz3 hz4 hy0 hy1 hy2 hy3 hy4; obtain ⟨Ao, co, eo⟩ := Kd.R_slice M.out.2.2.1.1; subst eo; obtain ⟨Ap, cp, ep⟩ := Kd.R_slice M.out.2.2.1.2; subst ep; obtain ⟨⟨hcr, hfr⟩, ⟨hm0, hm1, hm2, hm3, hm4⟩, ⟨hg0, hg1, hg2, hg3, hg4⟩⟩ := M.out.cells; obtain ⟨⟨hz0, hz1, hz2, hz3, hz4⟩, ⟨hy0, hy1, hy2, hy3, hy4⟩⟩ := M.out.zcells) | (go_at_call 46; refine (impl_ManifestOk.calls k _ _ xs1 n1 n2 n3 _ _ xs2 true _ ?side1 ?side2 ?side3 ?side4 A8.out).mono ?_; (case side1 => exact (Kd.R_reads' M.out.2.2.1.1).2.2); (case side2 => exact (Kd.R_reads' M.out.2.2.1.1).2.1); (case side3 => exact (Kd.R_reads' M.out.2.2.1.2).2.2); (case side4 => exact (Kd.R_reads' M.out.2.2.1.2).2.1); rintro e w17 ⟨rfl, hb⟩; replace M := Aside0.mk (M.out.below hb); clear hb; clear hcr hfr hm0 hm1 hm2 hm3 hm4 hg0 hg1 hg2 hg3 hg4 hz0 hz1 hz2 hz3 hz4 hy0 hy1 hy2 hy3 hy4; obtain ⟨⟨hcr, hfr⟩, ⟨hm0, hm1, hm2, hm3, hm4⟩, ⟨hg0, hg1, hg2, hg3, hg4⟩⟩ := M.out.cells; obtain ⟨⟨hz0, hz1, hz2, hz3, hz4⟩, ⟨hy0, hy1, hy2, hy3, hy4⟩⟩ := M.out.zcells))
    refine bodyPost_ret (results_ct rfl _ _ gz 36 #[.slice Ao xs1.length co, .int .i64 n1, .int .i64 n2, .int .i64 n3, .slice Ap xs2.length cp] (0, 0) _ rfl (put5 M.out.2.1.1) hu36 rfl (by kernel_rfl)) rfl ?_
    exact ⟨_, _, rfl, R_put5 M.out.2.2.1.1 M.out.2.1.1 (by decide), R_put5 M.out.2.2.1.2 M.out.2.1.1 (by decide), below5 M.out.1.2 GZ.out⟩

/-! ### spec_l01In: function 56 -/
def spec_l01In.f (a0 : Int) (a1 : Int) (a2 : Int) : Option (Bool) := if a0 ≥ a1 then (some (decide (a0 ≤ a2))) else (some false)
set_option maxHeartbeats 8000000 in
set_option maxRecDepth 100000 in
theorem spec_l01In.calls (a0 : Int) (a1 : Int) (a2 : Int) (r : Bool) (w : World) (h : spec_l01In.f a0 a1 a2 = some r) :
 Calls Try.prog 56 #[.int .i64 a0, .int .i64 a1, .int .i64 a2] w fun e w' => e = .returned (.bool r) ∧ Drawn0 w w' := by
 have H : (if a0 ≥ a1 then (some (decide (a0 ≤ a2))) else (some false)) = some r := h; clear h; by_cases c4 : a0 ≥ a1
 · rw [if_pos c4] at H; have c4b0 : decide (a1 ≤ a0) = true := decide_eq_true c4; clear c4; obtain rfl := Option.some.inj H; go_enter Try.func56, Try.ntmps56; go_wp2; go_ret; exact ⟨by first | rfl | (simp; done) | (simp [*]; done), t22_⟩
 · rw [if_neg c4] at H; have c4b0 : decide (a1 ≤ a0) = false := decide_eq_false c4; clear c4; obtain rfl := Option.some.inj H; go_enter Try.func56, Try.ntmps56; go_wp2; go_ret; exact ⟨by first | rfl | (simp; done) | (simp [*]; done), t22_⟩

/-! ### spec_l07Rise: function 57 -/
def spec_l07Rise.l0 : Nat → List Int → Int → Int → Int → Option (Bool)
 | 0, _, _, _, _ => none
 | k + 1, x0, x1, x2, x7 => if x7 < (x0.length : Int) then (if 0 ≤ x7 then ((spec_l01In.f (rd x0 x7) x1 x2).bind fun t319 => (if t319 = true then (if x7 > 0 then (if 0 ≤ (wrap64 (x7 - 1)) then (if (wrap64 (x7 - 1)) < (x0.length : Int) then (if (rd x0 (wrap64 (x7 - 1))) ≥ (rd x0 x7) then (some false) else (spec_l07Rise.l0 k x0 x1 x2 (wrap64 (x7 + 1)))) else (none)) else (none)) else (spec_l07Rise.l0 k x0 x1 x2 (wrap64 (x7 + 1)))) else (some false))) else (none)) else (some true)
def spec_l07Rise.f (k : Nat) (l0 : List Int) (a1 : Int) (a2 : Int) : Option (Bool) := spec_l07Rise.l0 k l0 a1 a2 0
theorem spec_l07Rise.mono_l : ∀ k, (∀ y0 y1 y2 y3, LeO (spec_l07Rise.l0 k y0 y1 y2 y3) (spec_l07Rise.l0 (k + 1) y0 y1 y2 y3))
 | 0 => fun _ _ _ _ r h => by simp [spec_l07Rise.l0] at h
 | k + 1 => by
  have ih0 := spec_l07Rise.mono_l k
  · intro y0 y1 y2 y3
    unfold spec_l07Rise.l0
    repeat' first
    | (with_reducible exact ih0 _ _ _ _)
    | (with_reducible exact LeO.refl _)
    | (with_reducible exact LeO.none _)
    | (with_reducible refine LeO.ite ?_ ?_)
    | (with_reducible refine LeO.bind ?_ (fun _ => ?_))
    | exact ih0 _ _ _ _
    | exact LeO.none _
    | refine LeO.ite ?_ ?_
    | refine LeO.bind ?_ (fun _ => ?_)
theorem spec_l07Rise.mono : ∀ a0 a1 a2 k, LeO (spec_l07Rise.f k a0 a1 a2) (spec_l07Rise.f (k + 1) a0 a1 a2) := by
 intro a0 a1 a2 k; have ih0 := spec_l07Rise.mono_l k
 unfold spec_l07Rise.f
 repeat' first
  | (with_reducible exact ih0 _ _ _ _)
  | (with_reducible exact LeO.refl _)
  | (with_reducible exact LeO.none _)
  | (with_reducible refine LeO.ite ?_ ?_)
  | (with_reducible refine LeO.bind ?_ (fun _ => ?_))
  | exact ih0 _ _ _ _
  | exact LeO.none _
  | refine LeO.ite ?_ ?_
  | refine LeO.bind ?_ (fun _ => ?_)
set_option maxHeartbeats 8000000 in
set_option maxRecDepth 100000 in
theorem spec_l07Rise.calls (k : Nat) (A0 : Option Addr) (c0 : Nat) (l0 : List Int) (a1 : Int) (a2 : Int) (r : Bool) (w : World) (hr0 : Kd.C (Kd.int .i64) w A0 l0.length l0) (hc0 : l0.length ≤ c0) (h : spec_l07Rise.f k l0 a1 a2 = some r) :
 Calls Try.prog 57 #[.slice A0 l0.length c0, .int .i64 a1, .int .i64 a2] w fun e w' => e = .returned (.bool r) ∧ Drawn0 w w' := by
 have HR0 := Aside0.mk hr0; have HC0 := Aside0.mk hc0; clear hr0 hc0; have H : (spec_l07Rise.l0 k l0 a1 a2 0) = some r := h; clear h; have H' := Aside0.mk H; clear H; go_enter Try.func57, Try.ntmps57; go_wp2
 repeat (go_quiet (fail); try go_wp2)
 go_loopg [7] k (fun kq v7 w' => ∃ (x7_1 : Int), v7 = .int .i64 x7_1 ∧ Aside0 (spec_l07Rise.l0 kq l0 a1 a2 x7_1 = some r) ∧ Aside0 (kq ≤ k) ∧ Drawn0 w w')
 case atStart => exact ⟨(0), t14_, H', ⟨Nat.le_refl _⟩, t22_⟩
 case round =>
  clear H'
  try clear p2
  obtain ⟨x7_1, rfl, HA, HK1, ⟨m1, rfl⟩⟩ := hrel
  cases gk with
  | zero => exact absurd HA.out (by simp [spec_l07Rise.l0])
  | succ k1 =>
   have H := HA.out; clear HA; simp only [spec_l07Rise.l0] at H; by_cases c4 : x7_1 < (l0.length : Int)
   · rw [if_pos c4] at H; have c4b0 : decide (x7_1 < (l0.length : Int)) = true := decide_eq_true c4; clear c4; by_cases c5 : 0 ≤ x7_1
     · rw [if_pos c5] at H; have c5b0 : decide (0 ≤ x7_1) = true := decide_eq_true c5; clear c5; replace H := Option.bind_eq_some_iff.mp H; obtain ⟨t319, A60, H⟩ := H; replace H : (if t319 = true then (if x7_1 > 0 then (if 0 ≤ (wrap64 (x7_1 - 1)) then (if (wrap64 (x7_1 - 1)) < (l0.length : Int) then (if (rd l0 (wrap64 (x7_1 - 1))) ≥ (rd l0 x7_1) then (some false) else (spec_l07Rise.l0 k1 l0 a1 a2 (wrap64 (x7_1 + 1)))) else (none)) else (none)) else (spec_l07Rise.l0 k1 l0 a1 a2 (wrap64 (x7_1 + 1)))) else (some false)) = some r := H; have A6 := Aside0.mk A60; clear A60; by_cases c7 : t319 = true
       · subst c7; have H1 : (if x7_1 > 0 then (if 0 ≤ (wrap64 (x7_1 - 1)) then (if (wrap64 (x7_1 - 1)) < (l0.length : Int) then (if (rd l0 (wrap64 (x7_1 - 1))) ≥ (rd l0 x7_1) then (some false) else (spec_l07Rise.l0 k1 l0 a1 a2 (wrap64 (x7_1 + 1)))) else (none)) else (none)) else (spec_l07Rise.l0 k1 l0 a1 a2 (wrap64 (x7_1 + 1)))) = some r := by rw [if_pos rfl] at H; exact H
         clear H; have H := H1; clear H1; by_cases c8 : x7_1 > 0
         · rw [if_pos c8] at H; have c8b0 : decide (0 < x7_1) = true := decide_eq_true c8; clear c8; obtain ⟨ji9, hji9⟩ : ∃ j_ : Int, (wrap64 (x7_1 - 1)) = j_ := ⟨_, rfl⟩; replace H : (if 0 ≤ (ji9) then (if (ji9) < (l0.length : Int) then (if (rd l0 (ji9)) ≥ (rd l0 x7_1) then (some false) else (spec_l07Rise.l0 k1 l0 a1 a2 (wrap64 (x7_1 + 1)))) else (none)) else (none)) = some r := by first | (rw [hji9] at H; exact H) | (simp only [hji9] at H ⊢; exact H)
           (try rw [hji9] at A6)
           have hji9w : (IntKind.i64.wrap (x7_1 - 1)) = ji9 := (i64_w _).trans hji9; by_cases c10 : 0 ≤ (ji9)
           · rw [if_pos c10] at H; have c10b0 : decide (0 ≤ (ji9)) = true := decide_eq_true c10; clear c10; by_cases c11 : (ji9) < (l0.length : Int)
             · rw [if_pos c11] at H; have c11b0 : decide ((ji9) < (l0.length : Int)) = true := decide_eq_true c11; clear c11; by_cases c12 : (rd l0 (ji9)) ≥ (rd l0 x7_1)
               · rw [if_pos c12] at H; have c12b0 : decide ((rd l0 x7_1) ≤ (rd l0 (ji9))) = true := decide_eq_true c12; clear c12; obtain rfl := Option.some.inj H; have p318 : 0 ≤ (x7_1 : Int) := of_decide_eq_true t7_; have q318 : x7_1 < (l0.length : Int) := of_decide_eq_true t7_; obtain ⟨ad318, e318, hx318_0⟩ := Kd.at_int HR0.out x7_1 p318 q318
                 cases e318
                 replace p318 := eq_true p318; replace q318 := eq_true q318
                 (have p320 : 0 ≤ ((ji9) : Int) := of_decide_eq_true t7_; have q320 : (ji9) < (l0.length : Int) := of_decide_eq_true t7_; obtain ⟨ad320, e320, hx320_0⟩ := Kd.at_int HR0.out (ji9) p320 q320; obtain rfl : ad318 = ad320 := (by injection e320); replace p320 := eq_true p320; replace q320 := eq_true q320; have p321 : 0 ≤ (x7_1 : Int) := of_decide_eq_true t7_; have q321 : x7_1 < (l0.length : Int) := of_decide_eq_true t7_; obtain ⟨ad321, e321, hx321_0⟩ := Kd.at_int HR0.out x7_1 p321 q321; obtain rfl : ad318 = ad321 := (by injection e321); replace p321 := eq_true p321; replace q321 := eq_true q321)
                 go_wp2_with (first | (go_at_call 56; (with_reducible refine (spec_l01In.calls (rd l0 x7_1) a1 a2 true _ A6.out).mono ?_); rintro e w' ⟨rfl, ⟨nd, rfl⟩⟩; (try first | exact ⟨rfl, _, World.drewN_drewN _ _ _⟩ | exact ⟨rfl, _, Eq.trans (World.drewN_drewN _ _ _) (congrArg (World.drewN _) (Nat.add_assoc _ _ _))⟩)))
                 repeat (go_quiet (first | (go_at_call 56; (with_reducible refine (spec_l01In.calls (rd l0 x7_1) a1 a2 true _ A6.out).mono ?_); rintro e w' ⟨rfl, ⟨nd, rfl⟩⟩; (try first | exact ⟨rfl, _, World.drewN_drewN _ _ _⟩ | exact ⟨rfl, _, Eq.trans (World.drewN_drewN _ _ _) (congrArg (World.drewN _) (Nat.add_assoc _ _ _))⟩))); try go_wp2_with (first | (go_at_call 56; (with_reducible refine (spec_l01In.calls (rd l0 x7_1) a1 a2 true _ A6.out).mono ?_); rintro e w' ⟨rfl, ⟨nd, rfl⟩⟩; (try first | exact ⟨rfl, _, World.drewN_drewN _ _ _⟩ | exact ⟨rfl, _, Eq.trans (World.drewN_drewN _ _ _) (congrArg (World.drewN _) (Nat.add_assoc _ _ _))⟩); have p320 : 0 ≤ ((ji9) : Int) := of_decide_eq_true t7_; have q320 : (ji9) < (l0.length : Int) := of_decide_eq_true t7_; obtain ⟨ad320, e320, hx320_0⟩ := Kd.at_int HR0.out (ji9) p320 q320; obtain rfl : ad318 = ad320 := (by injection e320); replace p320 := eq_true p320; replace q320 := eq_true q320; have p321 : 0 ≤ (x7_1 : Int) := of_decide_eq_true t7_; have q321 : x7_1 < (l0.length : Int) := of_decide_eq_true t7_; obtain ⟨ad321, e321, hx321_0⟩ := Kd.at_int HR0.out x7_1 p321 q321; obtain rfl : ad318 = ad321 := (by injection e321); replace p321 := eq_true p321; replace q321 := eq_true q321)))
                 go_ret; exact ⟨by first | rfl | (simp; done) | (simp only [← hji9] <;> (first | rfl | simp)) | (simp [*]; done), t22_⟩
               · rw [if_neg c12] at H; have c12b0 : decide ((rd l0 x7_1) ≤ (rd l0 (ji9))) = false := decide_eq_false c12; clear c12; have H' := Aside0.mk H; clear H; have p318 : 0 ≤ (x7_1 : Int) := of_decide_eq_true t7_; have q318 : x7_1 < (l0.length : Int) := of_decide_eq_true t7_; obtain ⟨ad318, e318, hx318_0⟩ := Kd.at_int HR0.out x7_1 p318 q318
                 cases e318
                 replace p318 := eq_true p318; replace q318 := eq_true q318
                 (have p320 : 0 ≤ ((ji9) : Int) := of_decide_eq_true t7_; have q320 : (ji9) < (l0.length : Int) := of_decide_eq_true t7_; obtain ⟨ad320, e320, hx320_0⟩ := Kd.at_int HR0.out (ji9) p320 q320; obtain rfl : ad318 = ad320 := (by injection e320); replace p320 := eq_true p320; replace q320 := eq_true q320; have p321 : 0 ≤ (x7_1 : Int) := of_decide_eq_true t7_; have q321 : x7_1 < (l0.length : Int) := of_decide_eq_true t7_; obtain ⟨ad321, e321, hx321_0⟩ := Kd.at_int HR0.out x7_1 p321 q321; obtain rfl : ad318 = ad321 := (by injection e321); replace p321 := eq_true p321; replace q321 := eq_true q321)
                 go_wp2_with (first | (go_at_call 56; (with_reducible refine (spec_l01In.calls (rd l0 x7_1) a1 a2 true _ A6.out).mono ?_); rintro e w' ⟨rfl, ⟨nd, rfl⟩⟩; (try first | exact ⟨rfl, _, World.drewN_drewN _ _ _⟩ | exact ⟨rfl, _, Eq.trans (World.drewN_drewN _ _ _) (congrArg (World.drewN _) (Nat.add_assoc _ _ _))⟩)))
                 repeat (go_quiet (first | (go_at_call 56; (with_reducible refine (spec_l01In.calls (rd l0 x7_1) a1 a2 true _ A6.out).mono ?_); rintro e w' ⟨rfl, ⟨nd, rfl⟩⟩; (try first | exact ⟨rfl, _, World.drewN_drewN _ _ _⟩ | exact ⟨rfl, _, Eq.trans (World.drewN_drewN _ _ _) (congrArg (World.drewN _) (Nat.add_assoc _ _ _))⟩))); try go_wp2_with (first | (go_at_call 56; (with_reducible refine (spec_l01In.calls (rd l0 x7_1) a1 a2 true _ A6.out).mono ?_); rintro e w' ⟨rfl, ⟨nd, rfl⟩⟩; (try first | exact ⟨rfl, _, World.drewN_drewN _ _ _⟩ | exact ⟨rfl, _, Eq.trans (World.drewN_drewN _ _ _) (congrArg (World.drewN _) (Nat.add_assoc _ _ _))⟩); have p320 : 0 ≤ ((ji9) : Int) := of_decide_eq_true t7_; have q320 : (ji9) < (l0.length : Int) := of_decide_eq_true t7_; obtain ⟨ad320, e320, hx320_0⟩ := Kd.at_int HR0.out (ji9) p320 q320; obtain rfl : ad318 = ad320 := (by injection e320); replace p320 := eq_true p320; replace q320 := eq_true q320; have p321 : 0 ≤ (x7_1 : Int) := of_decide_eq_true t7_; have q321 : x7_1 < (l0.length : Int) := of_decide_eq_true t7_; obtain ⟨ad321, e321, hx321_0⟩ := Kd.at_int HR0.out x7_1 p321 q321; obtain rfl : ad318 = ad321 := (by injection e321); replace p321 := eq_true p321; replace q321 := eq_true q321)))
                 go_roundg k1
                 case measure => have := HK1.out; omega
                 case rel => exact ⟨(wrap64 (x7_1 + 1)), t14_, H', ⟨by have := HK1.out; omega⟩, t22_⟩
             · rw [if_neg c11] at H; exact absurd H (by simp)
           · rw [if_neg c10] at H; exact absurd H (by simp)
         · rw [if_neg c8] at H; have c8b0 : decide (0 < x7_1) = false := decide_eq_false c8; clear c8; have H' := Aside0.mk H; clear H; have p318 : 0 ≤ (x7_1 : Int) := of_decide_eq_true t7_; have q318 : x7_1 < (l0.length : Int) := of_decide_eq_true t7_; obtain ⟨ad318, e318, hx318_0⟩ := Kd.at_int HR0.out x7_1 p318 q318
           cases e318
           replace p318 := eq_true p318; replace q318 := eq_true q318
           go_wp2_with (first | (go_at_call 56; (with_reducible refine (spec_l01In.calls (rd l0 x7_1) a1 a2 true _ A6.out).mono ?_); rintro e w' ⟨rfl, ⟨nd, rfl⟩⟩; (try first | exact ⟨rfl, _, World.drewN_drewN _ _ _⟩ | exact ⟨rfl, _, Eq.trans (World.drewN_drewN _ _ _) (congrArg (World.drewN _) (Nat.add_assoc _ _ _))⟩)))
           repeat (go_quiet (first | (go_at_call 56; (with_reducible refine (spec_l01In.calls (rd l0 x7_1) a1 a2 true _ A6.out).mono ?_); rintro e w' ⟨rfl, ⟨nd, rfl⟩⟩; (try first | exact ⟨rfl, _, World.drewN_drewN _ _ _⟩ | exact ⟨rfl, _, Eq.trans (World.drewN_drewN _ _ _) (congrArg (World.drewN _) (Nat.add_assoc _ _ _))⟩))); try go_wp2_with (first | (go_at_call 56; (with_reducible refine (spec_l01In.calls (rd l0 x7_1) a1 a2 true _ A6.out).mono ?_); rintro e w' ⟨rfl, ⟨nd, rfl⟩⟩; (try first | exact ⟨rfl, _, World.drewN_drewN _ _ _⟩ | exact ⟨rfl, _, Eq.trans (World.drewN_drewN _ _ _) (congrArg (World.drewN _) (Nat.add_assoc _ _ _))⟩))))
           go_roundg k1
           case measure => have := HK1.out; omega
           case rel => exact ⟨(wrap64 (x7_1 + 1)), t14_, H', ⟨by have := HK1.out; omega⟩, t22_⟩
       · replace c7 := Bool.eq_false_iff.mpr c7; subst c7; have H1 : (some false) = some r := by rw [if_neg (show ¬ (false = true) by decide)] at H; exact H
         clear H; have H := H1; clear H1; obtain rfl := Option.some.inj H; have p318 : 0 ≤ (x7_1 : Int) := of_decide_eq_true t7_; have q318 : x7_1 < (l0.length : Int) := of_decide_eq_true t7_; obtain ⟨ad318, e318, hx318_0⟩ := Kd.at_int HR0.out x7_1 p318 q318
         cases e318
         replace p318 := eq_true p318; replace q318 := eq_true q318
         go_wp2_with (first | (go_at_call 56; (with_reducible refine (spec_l01In.calls (rd l0 x7_1) a1 a2 false _ A6.out).mono ?_); rintro e w' ⟨rfl, ⟨nd, rfl⟩⟩; (try first | exact ⟨rfl, _, World.drewN_drewN _ _ _⟩ | exact ⟨rfl, _, Eq.trans (World.drewN_drewN _ _ _) (congrArg (World.drewN _) (Nat.add_assoc _ _ _))⟩)))
         repeat (go_quiet (first | (go_at_call 56; (with_reducible refine (spec_l01In.calls (rd l0 x7_1) a1 a2 false _ A6.out).mono ?_); rintro e w' ⟨rfl, ⟨nd, rfl⟩⟩; (try first | exact ⟨rfl, _, World.drewN_drewN _ _ _⟩ | exact ⟨rfl, _, Eq.trans (World.drewN_drewN _ _ _) (congrArg (World.drewN _) (Nat.add_assoc _ _ _))⟩))); try go_wp2_with (first | (go_at_call 56; (with_reducible refine (spec_l01In.calls (rd l0 x7_1) a1 a2 false _ A6.out).mono ?_); rintro e w' ⟨rfl, ⟨nd, rfl⟩⟩; (try first | exact ⟨rfl, _, World.drewN_drewN _ _ _⟩ | exact ⟨rfl, _, Eq.trans (World.drewN_drewN _ _ _) (congrArg (World.drewN _) (Nat.add_assoc _ _ _))⟩))))
         go_ret; exact ⟨by first | rfl | (simp; done) | (simp [*]; done), t22_⟩
     · rw [if_neg c5] at H; exact absurd H (by simp)
   · rw [if_neg c4] at H; have c4b0 : decide (x7_1 < (l0.length : Int)) = false := decide_eq_false c4; clear c4; obtain rfl := Option.some.inj H; go_wp2
     repeat (go_quiet (fail); try go_wp2)
     go_ret; exact ⟨by first | rfl | (simp; done) | (simp [*]; done), t22_⟩

/-! ### spec_ConfOk: function 58 -/
def spec_ConfOk.f (k : Nat) (l0 : List Int) : Option (Bool) := (spec_l01In.f (l0.length : Int) 1 4).bind fun t322 => (if t322 = true then ((spec_l07Rise.f k l0 1 4).bind fun t323 => (some t323)) else (some false))
theorem spec_ConfOk.mono : ∀ a0 k, LeO (spec_ConfOk.f k a0) (spec_ConfOk.f (k + 1) a0) := by
 intro a0 k
 unfold spec_ConfOk.f
 repeat' first
  | (with_reducible exact spec_l07Rise.mono _ _ _ _)
  | (with_reducible exact LeO.refl _)
  | (with_reducible exact LeO.none _)
  | (with_reducible refine LeO.ite ?_ ?_)
  | (with_reducible refine LeO.bind ?_ (fun _ => ?_))
  | exact spec_l07Rise.mono _ _ _ _
  | exact LeO.none _
  | refine LeO.ite ?_ ?_
  | refine LeO.bind ?_ (fun _ => ?_)
set_option maxHeartbeats 8000000 in
set_option maxRecDepth 100000 in
theorem spec_ConfOk.calls (k : Nat) (A0 : Option Addr) (c0 : Nat) (l0 : List Int) (r : Bool) (w : World) (hr0 : Kd.C (Kd.int .i64) w A0 l0.length l0) (hc0 : l0.length ≤ c0) (h : spec_ConfOk.f k l0 = some r) :
 Calls Try.prog 58 #[.slice A0 l0.length c0] w fun e w' => e = .returned (.bool r) ∧ Drawn0 w w' := by
 have HR0 := Aside0.mk hr0; have HC0 := Aside0.mk hc0; clear hr0 hc0; have H : ((spec_l01In.f (l0.length : Int) 1 4).bind fun t322 => (if t322 = true then ((spec_l07Rise.f k l0 1 4).bind fun t323 => (some t323)) else (some false))) = some r := h; clear h; replace H := Option.bind_eq_some_iff.mp H; obtain ⟨t322, A20, H⟩ := H; replace H : (if t322 = true then ((spec_l07Rise.f k l0 1 4).bind fun t323 => (some t323)) else (some false)) = some r := H; have A2 := Aside0.mk A20; clear A20; by_cases c3 : t322 = true
 · subst c3; have H1 : ((spec_l07Rise.f k l0 1 4).bind fun t323 => (some t323)) = some r := by rw [if_pos rfl] at H; exact H
   clear H; have H := H1; clear H1; replace H := Option.bind_eq_some_iff.mp H; obtain ⟨t323, A40, H⟩ := H; replace H : (some t323) = some r := H; have A4 := Aside0.mk A40; clear A40; obtain rfl := Option.some.inj H; go_enter Try.func58, Try.ntmps58
   go_wp2_with (first | ((with_reducible refine gate_callee (f := 56) rfl ?_); refine goesL_ (some 5) rfl rfl Try.func56 (by kernel_rfl) rfl #[.int .i64 (l0.length : Int), .int .i64 1, .int .i64 4] rfl t1_ ?_; (with_reducible refine (spec_l01In.calls (l0.length : Int) 1 4 true _ A2.out).mono ?_); rintro e w' ⟨rfl, ⟨nd, rfl⟩⟩; refine ⟨_, rfl, ?_⟩) | (go_at_call 57; (with_reducible refine (spec_l07Rise.calls k _ _ l0 1 4 t323 _ ?side1 ?side2 A4.out).mono ?_); (case side1 => repeat (first | exact HR0.out | (with_reducible refine Kd.C_alloc ?_ _) | (with_reducible refine Kd.C_drewN ?_ _) | (with_reducible refine Kd.C_drew ?_))); (case side2 => exact HC0.out); rintro e w' ⟨rfl, ⟨nd, rfl⟩⟩))
   go_ret; exact ⟨by first | rfl | (simp; done) | (simp [*]; done), t22_⟩
 · replace c3 := Bool.eq_false_iff.mpr c3; subst c3; have H1 : (some false) = some r := by rw [if_neg (show ¬ (false = true) by decide)] at H; exact H
   clear H; have H := H1; clear H1; obtain rfl := Option.some.inj H; go_enter Try.func58, Try.ntmps58
   go_wp2_with (first | ((with_reducible refine gate_callee (f := 56) rfl ?_); refine goesL_ (some 5) rfl rfl Try.func56 (by kernel_rfl) rfl #[.int .i64 (l0.length : Int), .int .i64 1, .int .i64 4] rfl t1_ ?_; (with_reducible refine (spec_l01In.calls (l0.length : Int) 1 4 false _ A2.out).mono ?_); rintro e w' ⟨rfl, ⟨nd, rfl⟩⟩; refine ⟨_, rfl, ?_⟩))
   go_ret; exact ⟨by first | rfl | (simp; done) | (simp [*]; done), t22_⟩

end Go.Proofs.Ytpnncgfmihjlkaa.QFnManifests
