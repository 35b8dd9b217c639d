-- By a program of this session, over the kit's print.
import Derived.Test.YtpjhbhjmaggheaaQFnMapsx0
import Derived.Test.YtpjhbhjmaggheaaQFnMapsx3
import Derived.Test.YtpjhbhjmaggheaaQFnMapsx4
import Derived.Test.YtpjhbhjmaggheaaQFnMapsx5
namespace Go.Proofs.Ytpjhbhjmaggheaa.QFnMaps
open Go.RowKit Go.Proofs.YtpjhbhjmaggheaaW.PrintWords Go.Proofs.YtpjhbhjmaggheaaW.PrintLast Go.Proofs.YtpjhbhjmaggheaaW.PrintMore
attribute [local go_sem] max2_int min2_int max_two min_two max_three min_three max_four min_four   -- for this text's walks alone
set_option linter.unusedVariables false
set_option linter.unusedSimpArgs false

/-! ### impl_Pair_112: function 112 -/
/-- The cells of a row. -/
def sl_Pair.flat (xs : List S59) : List Value := xs.flatMap fun x => [.string x.f0, .string x.f1]
theorem sl_Pair.flat_len (xs : List S59) : (sl_Pair.flat xs).length = xs.length * 2 := by
  induction xs with
  | nil => rfl
  | cons x xs ih =>
    show ([Value.string x.f0, Value.string x.f1] ++ sl_Pair.flat xs).length = _
    rw [List.length_append, ih, List.length_cons]
    simp only [List.length_cons, List.length_nil]
    omega
theorem sl_Pair.flat_append (xs ys : List S59) : sl_Pair.flat (xs ++ ys) = sl_Pair.flat xs ++ sl_Pair.flat ys := List.flatMap_append
theorem sl_Pair.flat_take (xs : List S59) (n : Nat) : (sl_Pair.flat xs).take (n * 2) = sl_Pair.flat (xs.take n) := by
  by_cases h : n ≤ xs.length
  · have e := sl_Pair.flat_append (xs.take n) (xs.drop n)
    rw [List.take_append_drop] at e
    rw [e]
    exact List.take_left' (by rw [sl_Pair.flat_len, List.length_take]; omega)
  · rw [List.take_of_length_le (by rw [sl_Pair.flat_len]; omega), List.take_of_length_le (by omega)]
theorem sl_Pair.flat_drop (xs : List S59) (n : Nat) : (sl_Pair.flat xs).drop (n * 2) = sl_Pair.flat (xs.drop n) := by
  by_cases h : n ≤ xs.length
  · have e := sl_Pair.flat_append (xs.take n) (xs.drop n)
    rw [List.take_append_drop] at e
    rw [e]
    exact List.drop_left' (by rw [sl_Pair.flat_len, List.length_take]; omega)
  · rw [List.drop_eq_nil_of_le (by rw [sl_Pair.flat_len]; omega), List.drop_eq_nil_of_le (by omega)]
    rfl
theorem sl_Pair.flat_one (xs : List S59) : ∀ v ∈ sl_Pair.flat xs, v.oneCell' = true := by
  intro v hv
  obtain ⟨x, _, hx⟩ := List.mem_flatMap.1 hv
  simp only [List.mem_cons, List.not_mem_nil, or_false] at hx
  rcases hx with rfl | rfl <;> rfl
theorem sl_Pair.flat_of {R : S59 → List Value → Prop} (hR : ∀ x cs, R x cs → cs = [.string x.f0, .string x.f1]) : ∀ (xs : List S59) (cs : List Value), Reps R 2 xs cs → cs = sl_Pair.flat xs
  | [], cs, h => List.eq_nil_of_length_eq_zero (by have := h.1; simpa using this)
  | x :: xs, cs, h => by
    have h0 := hR _ _ (h.2 0 x rfl)
    rw [Nat.zero_mul, List.drop_zero] at h0
    have h1 : Reps R 2 xs (cs.drop 2) := ⟨by rw [List.length_drop, h.1, List.length_cons]; omega, fun j p hj => by
      have := h.2 (j + 1) p (by simpa using hj)
      rwa [List.drop_drop, show 2 + j * 2 = (j + 1) * 2 by omega]⟩
    rw [← List.take_append_drop 2 cs, h0, sl_Pair.flat_of hR xs _ h1]
    rfl
theorem sl_Pair.reps_of {R : S59 → List Value → Prop} (hR : ∀ x, R x [.string x.f0, .string x.f1]) (xs : List S59) : Reps R 2 xs (sl_Pair.flat xs) := by
  refine ⟨sl_Pair.flat_len xs, fun j p hj => ?_⟩
  obtain ⟨hlt, rfl⟩ := List.getElem?_eq_some_iff.1 hj
  rw [sl_Pair.flat_drop, List.drop_eq_getElem_cons hlt]
  exact hR _
theorem sl_Pair.open_ {w : World} {base g n cap : Nat} {ok : Nat → Prop} {xs : List S59} (h : Kd.R k59 59 w base ok (.slice (some ⟨g, 0, none⟩) n cap) xs) :
    ok g ∧ base ≤ g ∧ n = xs.length ∧ n ≤ cap ∧ cap ≤ maxLen ∧ ∃ cur, w.heap[g]? = some (.cells cur 59 (0, 0)) ∧ cur.size = cap * 2 ∧ cur.toList.take (n * 2) = sl_Pair.flat xs := by
  obtain ⟨hok, inner, ⟨hl, ho⟩, hr⟩ := h
  rcases ho with ⟨hv, _⟩ | ⟨g', cap', cur, hv, hb, hh, hnc, hcm, hcs, htake⟩
  · cases hv
  · injection hv with ha hn hc
    injection ha with ha
    injection ha with hg
    subst hg; subst hc; subst hn
    exact ⟨hok g rfl, hb, rfl, hnc, hcm, cur, hh, hcs, by
      rw [show (2 : Nat) = k59.sz from rfl, htake]
      exact sl_Pair.flat_of (fun x cs hx => k59_openM hx) xs inner hr⟩
theorem sl_Pair.close_ {w : World} {base g n cap : Nat} {ok : Nat → Prop} {xs : List S59} (h0 : ok g) (h1 : base ≤ g) (h2 : n = xs.length) (h3 : n ≤ cap) (h4 : cap ≤ maxLen) {cur : Array Value} (h5 : w.heap[g]? = some (.cells cur 59 (0, 0))) (h6 : cur.size = cap * 2) (h7 : cur.toList.take (n * 2) = sl_Pair.flat xs) :
    Kd.R k59 59 w base ok (.slice (some ⟨g, 0, none⟩) n cap) xs := by
  subst h2
  refine ⟨fun k hk => ?_, sl_Pair.flat xs, ⟨sl_Pair.flat_len xs, .inr ⟨g, cap, cur, rfl, h1, h5, h3, h4, h6, h7⟩⟩, sl_Pair.reps_of (fun x => k59_mkM _ _ _ x) xs⟩
  simp [Value.ownBlock] at hk
  exact hk ▸ h0
def impl_Pair_112.f (l0 : List S59) (a1 : Int) (l2 : List S59) : Option (List S59) := if 0 ≤ a1 ∧ a1 ≤ l0.length ∧ l2.length = 1 ∧ l0.length ≤ 1048576 then some (l0.take a1.toNat ++ l2 ++ l0.drop a1.toNat) else none
/-- A copy between rows of two cells an element. -/
theorem sl_Pair.copy_run {P : Program} (w : World) (dT sT ty elem : TypeId) (b o dLen dCap : Nat) (a : Addr) (sLen sCap : Nat) (cs : List Value)
    (hu : P.underlying dT = some (.slice elem)) (hs : (P.info? elem).map (·.size) = some 2) (hn : cs.length = Nat.min sLen dLen * 2)
    (hsrc : ∀ j v, cs[j]? = some v → w.cell? (a.add j) = some v) (hc : ∀ j, j < cs.length → (w.cell? ⟨b, o + j, none⟩).isSome = true) (hf : ∀ j, j < cs.length → w.frozen? ⟨b, o + j, none⟩ = false) (h1 : ∀ v ∈ cs, v.oneCell' = true) :
    (Builtin.copy_ #[dT, sT] ty #[.slice (some ⟨b, o, none⟩) dLen dCap, .slice (some a) sLen sCap]).run P w = .ok (goInt (Nat.min sLen dLen)) (w.setCells b o cs) := by
  have hl := run_loadCells_list (P := P) w a cs hsrc
  have hst := run_storeCells_cells (P := P) b o cs 0 w (by simpa using hc) (by simpa using hf) h1
  cases hq : P.info? elem with
  | none => simp [hq] at hs
  | some i =>
    have hi : i.size = 2 := by simpa [hq] using hs
    simp [Builtin.copy_, run_underlying hu, Builtin.lenOf, Builtin.firstCells, sizeOf, typeInfo, hq, hi, ← hn, hl, hst]
/-- What a copy into a row leaves. -/
theorem sl_Pair.copy_to {P : Program} (w : World) (L e : TypeId) (g o dLen : Nat) (a : Addr) (sLen m : Nat) (cs : List Value) (cur : Array Value)
    (hu : P.underlying L = some (.slice e)) (hs : (P.info? e).map (·.size) = some 2) (hm : Nat.min sLen dLen = m) (hn : cs.length = m * 2)
    (hsrc : ∀ j v, cs[j]? = some v → w.cell? (a.add j) = some v) (hh : w.heap[g]? = some (.cells cur e (0, 0))) (hfit : o + cs.length ≤ cur.size) (h1 : ∀ v ∈ cs, v.oneCell' = true) :
    ∃ w1, (∀ ty dCap sCap, (Builtin.copy_ #[L, L] ty #[.slice (some ⟨g, o, none⟩) dLen dCap, .slice (some a) sLen sCap]).run P w = .ok (goInt m) w1) ∧ w.grownBy w1 (some g) ∧
      ∃ cur', w1.heap[g]? = some (.cells cur' e (0, 0)) ∧ cur'.size = cur.size ∧ cur'.toList = cur.toList.take o ++ cs ++ cur.toList.drop (o + cs.length) := by
  obtain ⟨s1, s2, s3, s4⟩ := setCells_same g cs o w
  refine ⟨w.setCells g o cs, fun ty dCap sCap => ?_, ⟨s1, s2, s3, by rw [s4]; exact Nat.le_refl _, fun k _ hk => setCells_far _ _ k (fun he => hk (by rw [he]))⟩, setCells_row cs o w cur hh hfit⟩
  have := sl_Pair.copy_run (P := P) w L L ty e g o dLen dCap a sLen sCap cs hu hs (by rw [hm]; exact hn) hsrc (fun j hj => by
    rw [cell_of_row w g _ cur e (0, 0) hh, Array.getElem?_eq_getElem (by omega)]
    rfl) (fun j _ => blk_frozen hh _) h1
  rw [hm] at this
  exact this
theorem sl_Pair.src_of {w : World} {g k : Nat} {cur : Array Value} {e : TypeId} (hh : w.heap[g]? = some (.cells cur e (0, 0))) {cs : List Value} {o : Nat} (h : (cur.toList.drop o).take cs.length = cs) : ∀ j v, cs[j]? = some v → w.cell? ((⟨g, o, none⟩ : Addr).add j) = some v := fun j v hj => by
  rw [add_at, cell_of_row w g _ cur e (0, 0) hh]
  rw [← h] at hj
  rw [List.getElem?_take] at hj
  split at hj
  · rw [List.getElem?_drop] at hj
    rw [← hj, Array.getElem?_toList]
  · cases hj
set_option maxHeartbeats 8000000 in
set_option maxRecDepth 100000 in
theorem impl_Pair_112.calls (P0_ : Nat → Prop) (u9000_ : Value) (l0 : List S59) (a1 : Int) (P2_ : Nat → Prop) (u9001_ : Value) (l2 : List S59) (r : List S59) (w0 w : World) (hB : Below w0.heap.size w0 w) (ho0 : Kd.R k59 59 w w0.heap.size P0_ u9000_ l0) (hp0_2 : ∀ k_, P0_ k_ → ¬ P2_ k_) (ho2 : Kd.R k59 59 w w0.heap.size P2_ u9001_ l2) (hp2_0 : ∀ k_, P2_ k_ → ¬ P0_ k_) (h : impl_Pair_112.f l0 a1 l2 = some r) :
    Calls Try.prog 112 #[u9000_, .int .i64 a1, u9001_] w fun e w' => ∃ v0_ : Value, e = .returned v0_ ∧ Kd.R k59 59 w' w0.heap.size (fun k_ => ((P0_ k_ ∨ P2_ k_) ∨ w.heap.size ≤ k_)) v0_ r ∧ Below w0.heap.size w0 w' ∧ Kept w w' (fun k_ => P0_ k_ ∨ P2_ k_) := by
  have hu59 := Try.underlying59
  have hu43 := Try.underlying43
  have hu3 := Try.underlying3
  unfold impl_Pair_112.f at h
  by_cases hc : 0 ≤ a1 ∧ a1 ≤ l0.length ∧ l2.length = 1 ∧ l0.length ≤ 1048576
  rotate_left
  · rw [if_neg hc] at h
    exact absurd h (by simp)
  rw [if_pos hc] at h
  obtain rfl := Option.some.inj h
  clear h
  obtain ⟨hc0, hc1, hl2, hbig⟩ := hc
  obtain ⟨i, rfl⟩ := Int.eq_ofNat_of_zero_le hc0
  rw [Int.toNat_natCast]
  obtain ⟨vb, vc, rfl, hv0, hv1, -⟩ := Kd.R_form ho2 (by omega)
  rw [hl2] at ho2 ⊢
  obtain ⟨vok, -, -, vnc, vcm, vcur, vh, vcs, vtk⟩ := sl_Pair.open_ ho2
  have hBS := hB.size
  have hro : ∀ k_, (u9000_ : Value).ownBlock = some k_ → P0_ k_ := ho0.1
  have m1 : ¬ ((1 : Int) = 0) := by omega
  have mixed : Try.prog.follows .mixedOrders = true := by kernel_rfl
  by_cases hin : i = l0.length
  · subst hin
    rw [List.take_length, List.drop_length, List.append_nil]
    have HO := Aside0.mk (Kd.R_mono ho0 (ok' := fun k_ => (P0_ k_ ∨ P2_ k_) ∨ w.heap.size ≤ k_) (fun k h => Or.inl (Or.inl h)))
    have HV : Aside0 (Kd.C k59 w (some ⟨vb, 0, none⟩) 1 l2) := Aside0.mk (by have := (Kd.R_reads' ho2).2.2; rw [hl2] at this; exact this)
    have HBB := Aside0.mk hB
    have HRO := Aside0.mk hro
    obtain ⟨-, inner, ⟨-, hform⟩, -⟩ := ho0
    have hlb : (l0.length + 1) * 32 ≤ 140737488355328 := by omega
    have hwB : w0.heap.size ≤ w.heap.size := hBS
    clear hro hB ho2 hc0 hc1 vtk vcs vh hl2
    rcases hform with ⟨rfl, h0⟩ | ⟨g, cap, cur, rfl, -, -, hnc, hcm, -, -⟩
    · have hl0 : l0 = [] := List.eq_nil_of_length_eq_zero h0
      subst hl0
      clear h0
      go_enter Try.func112, Try.ntmps112
      go_wp2_with ((with_reducible refine gate_builtin (b := .append) (xs := #[.tmp 23, .tmp 24]) rfl ?_); at_builtin; refine Kd.R_append_rows k59 (w0 := w0) w0.heap.size rfl (.tmp 23) (.tmp 24) 43 59 (.agg #[(.string ⟨#[]⟩), (.string ⟨#[]⟩)]) 32 rfl Try.underlying43 info59 rfl (by decide) (by omega) (.slice none 0 0) [] l2 _ _ _ (fun k_ => (P0_ k_ ∨ P2_ k_) ∨ w.heap.size ≤ k_) (fun _ => False) rfl rfl HO.out HV.out (fun _ _ h => h) (fun _ h => h.elim) (fun _ h => Or.inr h) HBB.out hwB hlb ?_; intro v1 w1 h1 hB1 hg1 hat1; have n0_ := Aside0.mk h1; have n1_ := Aside0.mk hB1; have n2_ := Aside0.mk hg1; clear h1 hB1 hg1 hat1)
      go_ret
      exact ⟨_, rfl, n0_.out, n1_.out, n2_.out.size, fun k hk hn => n2_.out.block k hk (by simp [Value.ownBlock])⟩
    · have hmx : cap ≤ 9223372036854775807 := hcm
      have b1 : (l0.length : Int) ≤ (cap : Int) := by omega
      generalize hN : l0.length = n at *
      have HN := Aside0.mk hN
      clear hN
      go_enter Try.func112, Try.ntmps112
      go_wp2_with ((with_reducible refine gate_builtin (b := .append) (xs := #[.tmp 23, .tmp 24]) rfl ?_); at_builtin; refine Kd.R_append_rows k59 (w0 := w0) w0.heap.size rfl (.tmp 23) (.tmp 24) 43 59 (.agg #[(.string ⟨#[]⟩), (.string ⟨#[]⟩)]) 32 rfl Try.underlying43 info59 rfl (by decide) (by omega) _ l0 l2 _ _ _ (fun k_ => (P0_ k_ ∨ P2_ k_) ∨ w.heap.size ≤ k_) (fun _ => False) rfl rfl HO.out HV.out (fun _ _ h => h) (fun _ h => h.elim) (fun _ h => Or.inr h) HBB.out hwB (by rw [HN.out]; exact hlb) ?_; intro v1 w1 h1 hB1 hg1 hat1; have n0_ := Aside0.mk h1; have n1_ := Aside0.mk hB1; have n2_ := Aside0.mk hg1; clear h1 hB1 hg1 hat1)
      all_goals
        go_ret
        exact ⟨_, rfl, n0_.out, n1_.out, n2_.out.size, fun k hk hn => n2_.out.block k hk (fun e => hn (Or.inl (HRO.out k e.symm)))⟩
  have hi : i < l0.length := by omega
  obtain ⟨g, cap, rfl, hg0, hg1, -⟩ := Kd.R_form ho0 (by omega)
  obtain ⟨hok, -, -, hnc, hcm, cur, hh, hcs, htk⟩ := sl_Pair.open_ ho0
  have hgv : vb ≠ g := fun e => hp0_2 g hok (e ▸ vok)
  have hinfo : (Try.prog.info? 59).map (·.size) = some 2 := by
    obtain ⟨i0, h1, h2⟩ := Option.map_eq_some_iff.1 info59
    rw [h1]
    simp only [Prod.mk.injEq] at h2
    rw [Option.map_some, h2.2.1]
  have hfl2 : (sl_Pair.flat l2).length = 2 := by rw [sl_Pair.flat_len, hl2]
  have hfd : (sl_Pair.flat (l0.drop i)).length = (l0.length - i) * 2 := by rw [sl_Pair.flat_len, List.length_drop]
  have hsrcv : (vcur.toList.drop 0).take (sl_Pair.flat l2).length = sl_Pair.flat l2 := by rw [hfl2, List.drop_zero, ← vtk]
  have hsrcd : (cur.toList.drop (i * 2)).take (sl_Pair.flat (l0.drop i)).length = sl_Pair.flat (l0.drop i) := by
    rw [hfd, ← sl_Pair.flat_drop, ← htk, List.drop_take, show l0.length * 2 - i * 2 = (l0.length - i) * 2 by omega]
  have htki : cur.toList.take (i * 2) = sl_Pair.flat (l0.take i) := by
    rw [← sl_Pair.flat_take, ← htk, List.take_take, Nat.min_eq_left (by omega)]
  generalize hn : l0.length = n at *
  have hmx : cap ≤ 9223372036854775807 := hcm
  have hlen : (l0.take i ++ l2 ++ l0.drop i).length = n + 1 := by
    rw [List.length_append, List.length_append, List.length_take, List.length_drop, hl2, hn]
    omega
  by_cases hroom : n + 1 ≤ cap
  · have hcurs : (n + 1) * 2 ≤ cur.size := by omega
    obtain ⟨w1, hr1, hg1', cur1, hh1, hc1s, hc1l⟩ := sl_Pair.copy_to (P := Try.prog) w.drew 43 59 g ((i + 1) * 2) (n - i) ⟨g, i * 2, none⟩ (n + 1 - i) (n - i) (sl_Pair.flat (l0.drop i)) cur Try.underlying43 hinfo
      t36_ hfd (sl_Pair.src_of (k := 0) hh hsrcd) hh (by rw [hfd]; omega) (sl_Pair.flat_one _)
    have vh1 : w1.heap[vb]? = some (.cells vcur 59 (0, 0)) := (hg1'.block vb hv1 (fun e => hgv (by injection e))).trans vh
    obtain ⟨w2, hr2, hg2', cur2, hh2, hc2s, hc2l⟩ := sl_Pair.copy_to (P := Try.prog) w1 43 59 g (i * 2) (n + 1 - i) ⟨vb, 0, none⟩ 1 1 (sl_Pair.flat l2) cur1 Try.underlying43 hinfo
      t36_ (by rw [hfl2]) (sl_Pair.src_of (k := 0) vh1 hsrcv) hh1 (by rw [hfl2]; omega) (sl_Pair.flat_one _)
    have hfar : ∀ k, k ≠ g → k < w.heap.size → w2.heap[k]? = w.heap[k]? := fun k hk hlt =>
      (hg2'.block k (Nat.lt_of_lt_of_le hlt hg1'.size) (fun e => hk (by injection e))).trans (hg1'.block k hlt (fun e => hk (by injection e)))
    have R2 : Aside0 (Kd.R k59 59 w2 w0.heap.size (fun k_ => ((P0_ k_ ∨ P2_ k_) ∨ w.heap.size ≤ k_)) (.slice (some ⟨g, 0, none⟩) (n + 1) cap) (l0.take i ++ l2 ++ l0.drop i)) := Aside0.mk <| by
      refine sl_Pair.close_ (Or.inl (Or.inl hok)) hg0 hlen.symm hroom hcm hh2 (by rw [hc2s, hc1s, hcs]) ?_
      have e1 : cur1.toList.take (i * 2) = sl_Pair.flat (l0.take i) := by
        rw [hc1l, List.append_assoc, List.take_append_of_le_length (by rw [List.length_take, Array.length_toList]; omega), List.take_take, Nat.min_eq_left (by omega), htki]
      have e2 : (cur1.toList.drop (i * 2 + 2)).take ((n - i) * 2) = sl_Pair.flat (l0.drop i) := by
        rw [hc1l, List.append_assoc, List.drop_append_of_le_length (by rw [List.length_take, Array.length_toList]; omega), List.drop_eq_nil_of_le (by rw [List.length_take, Array.length_toList]; omega), List.nil_append, List.take_left' hfd]
      rw [hc2l, hfl2, e1, sl_Pair.flat_append, sl_Pair.flat_append, show (n + 1) * 2 = (i * 2 + 2) + (n - i) * 2 by omega]
      have e3 : (sl_Pair.flat (l0.take i) ++ sl_Pair.flat l2).length = i * 2 + 2 := by rw [List.length_append, hfl2, sl_Pair.flat_len, List.length_take, hn]; omega
      rw [← e3, List.take_length_add_append, e3, e2]
    have B2 : Aside0 (Below w0.heap.size w0 w2) := Aside0.mk ⟨hg2'.os.trans (hg1'.os.trans hB.os), hg2'.tape.trans (hg1'.tape.trans hB.tape), hg2'.output.trans (hg1'.output.trans hB.output), Nat.le_trans hBS (Nat.le_trans hg1'.size hg2'.size), fun k hk => (hfar k (by omega) (by omega)).trans (hB.block k hk)⟩
    have K2 : Aside0 (Kept w w2 (fun k_ => P0_ k_ ∨ P2_ k_)) := Aside0.mk ⟨Nat.le_trans hg1'.size hg2'.size, fun k hk hP => hfar k (fun e => hP (Or.inl (e ▸ hok))) hk⟩
    have hov : ∀ lb cb, (callFunc 134 #[.slice (some ⟨vb, 0, none⟩) 1 vc, .slice (some ⟨g, (i + 1) * 2, none⟩) lb cb]).run Try.prog w = .ok (.value (.bool false)) w := fun lb cb => by
      rw [run_callFunc_extern Try.func134 (by kernel_rfl) (by kernel_rfl) (by kernel_rfl) (e := Extern.SlicesOverlaps.overlaps #[43, 43] #[4]) (by kernel_rfl),
        Lib.run_overlaps_apart w 43 4 59 Try.underlying43 2 (fun w => by kernel_rfl) ⟨vb, 0, none⟩ ⟨g, (i + 1) * 2, none⟩ 1 vc lb cb hgv 59 59 vcur.size cur.size (by simp [World.shape?, vh]) (by simp [World.shape?, hh]) (by omega) (blk_frozen vh 0) (blk_frozen vh _)]
      rfl
    have b0 : (i : Int) ≤ (cap : Int) := by omega
    have b1 : (i : Int) + 1 ≤ (n : Int) + 1 := by omega
    have b2 : (i : Int) ≤ (n : Int) + 1 := by omega
    have b3 : (n : Int) + 1 ≤ (cap : Int) := by omega
    have b4 : ¬ (cap = i) := by omega
    have b5 : ¬ (cap = i + 1) := by omega
    have b6 : (0 : Int) ≤ (i : Int) + 1 := by omega
    have b7 : ¬ ((i : Int) = (n : Int)) := by omega
    have b8 : ((i : Int) + 1).toNat = i + 1 := by omega
    have b9 : ((n : Int) + 1).toNat = n + 1 := by omega
    have b10 : (0 : Int) ≤ (n : Int) + 1 := by omega
    have b11 : (i : Int) + 1 ≤ (cap : Int) := by omega
    have b12 : (i : Int) ≤ (n : Int) := by omega
    have b13 : ¬ ((cap : Int) < (n : Int) + 1) := by omega
    have hw1 : IntKind.i64.wrap ((i : Int) + 1) = (i : Int) + 1 := by rw [IntKind.wrap_i64]; omega
    have HR1 := Aside0.mk hr1
    have HR2 := Aside0.mk hr2
    have HOV := Aside0.mk hov
    clear hr1 hr2 hov hB ho0 ho2 hh vh hh1 hh2 hc1l hc2l hc1s hc2s htk vtk vcs hcs hsrcv hsrcd htki hfd hfl2 hg1' hg2' hfar vh1 hinfo hcurs hn hlen hin hc1 hro hp0_2 hp2_0 hl2
    go_enter Try.func112, Try.ntmps112
    go_wp2_with (simp only [HOV.out])
    go_region_law_o (refine step_copy_runI rfl (.tmp 73) (.tmp 76) 43 43 rfl _ _ (by simp [Act.eval, Act.put]; rfl) (by simp [Act.eval, Act.put]; rfl) (HR1.out _ _ _) ?_)
    go_wp2_with ((with_reducible refine gate_builtin (b := .copy) (xs := #[.tmp 80, .tmp 81]) rfl ?_); refine wpList_copy_runI _ rfl (.tmp 80) (.tmp 81) 43 43 rfl _ _ rfl rfl (HR2.out _ _ _) ?_)
    go_ret
    exact ⟨_, rfl, R2.out, B2.out, K2.out⟩
  · obtain rfl : cap = n := by omega
    have hrow : ∃ (W1 : World) (G : Nat) (row : Array Value), (∀ ty, (Builtin.append_ #[43, 3] ty #[.slice (some ⟨g, 0, none⟩) i cap, .int .i64 ((cap : Int) + 1 - (i : Int))]).run Try.prog w = .ok (.slice (some ⟨w.heap.size, 0, none⟩) (cap + 1) G) W1) ∧ cap + 1 ≤ G ∧ G ≤ maxLen ∧ Below w.heap.size w W1 ∧ w.heap.size < W1.heap.size ∧
        W1.heap[w.heap.size]? = some (.cells row 59 (0, 0)) ∧ row.size = G * 2 ∧ row.toList.take (i * 2) = sl_Pair.flat (l0.take i) := by
      obtain ⟨i0, hi0, hzz⟩ := Option.map_eq_some_iff.1 info59
      simp only [Prod.mk.injEq] at hzz
      obtain ⟨hz0, hzs, hzb⟩ := hzz
      have hfi : (sl_Pair.flat (l0.take i)).length = i * 2 := by rw [sl_Pair.flat_len, List.length_take, hn, Nat.min_eq_left (by omega)]
      have hold : (Builtin.firstCells i0.size i (.slice (some ⟨g, 0, none⟩) i cap)).run Try.prog w.drew = .ok (sl_Pair.flat (l0.take i)).toArray w.drew := by
        rw [hzs]
        exact run_firstCells_some w.drew 2 i ⟨g, 0, none⟩ i cap _ hfi (sl_Pair.src_of (w := w.drew) (k := 0) hh (by rw [hfi, List.drop_zero, htki]))
      have hik : i + (cap + 1 - i) = cap + 1 := by omega
      have hg := grownCap_ge w (cap + 1) cap 59
      have hg2 := grownCap_le_maxLen w (cap + 1) cap 59 (by unfold maxLen; omega)
      refine ⟨w.drew.alloc (.cells ((sl_Pair.flat (l0.take i)).toArray ++ Builtin.zeroCells (Value.agg #[(.string ⟨#[]⟩), (.string ⟨#[]⟩)]).cells (cap + 1 - i) ++ Builtin.zeroCells (Value.agg #[(.string ⟨#[]⟩), (.string ⟨#[]⟩)]).cells (grownCap w (cap + 1) cap 59 - (cap + 1))) 59), grownCap w (cap + 1) cap 59, (sl_Pair.flat (l0.take i)).toArray ++ Builtin.zeroCells (Value.agg #[(.string ⟨#[]⟩), (.string ⟨#[]⟩)]).cells (cap + 1 - i) ++ Builtin.zeroCells (Value.agg #[(.string ⟨#[]⟩), (.string ⟨#[]⟩)]).cells (grownCap w (cap + 1) cap 59 - (cap + 1)), fun ty => ?_, hg, hg2, below_alloc (below_drew (Below.refl w.heap.size w)) _, by rw [World.size_alloc]; exact Nat.lt_succ_self _, heap_alloc_new w.drew _, ?_, ?_⟩
      · have h := Lib.run_append_grow_zeros (P := Try.prog) w 43 3 ty 59 i0 _ .i64 .i64 Try.underlying43 hu3 hi0 hz0 (some ⟨g, 0, none⟩) i cap (sl_Pair.flat (l0.take i)) hold (cap + 1 - i) (by omega) (by omega) (by omega) (by omega) (by rw [hzb]; omega) (by rw [hzb, hik]; exact growslice_fits (by omega) (by omega))
        rw [hik] at h
        rw [show (cap : Int) + 1 - (i : Int) = ((cap + 1 - i : Nat) : Int) by omega]
        exact h
      · have hz2 : (Value.agg #[(.string ⟨#[]⟩), (.string ⟨#[]⟩)]).cells.size = 2 := by decide
        rw [Array.size_append, Array.size_append, size_zeroCells, size_zeroCells, hz2, List.size_toArray, hfi]
        omega
      · rw [Array.toList_append, Array.toList_append, List.append_assoc, List.take_left' hfi]
    obtain ⟨w1, G, row, hr1, hG1, hG2, hb1, hs1, hh1, hrs, hrt⟩ := hrow
    have vh1 : w1.heap[vb]? = some (.cells vcur 59 (0, 0)) := (hb1.block vb hv1).trans vh
    obtain ⟨w2, hr2, hg2', cur2, hh2, hc2s, hc2l⟩ := sl_Pair.copy_to (P := Try.prog) w1 43 59 w.heap.size (i * 2) (cap + 1 - i) ⟨vb, 0, none⟩ 1 1 (sl_Pair.flat l2) row Try.underlying43 hinfo
      t36_ (by rw [hfl2]) (sl_Pair.src_of (k := 0) vh1 hsrcv) hh1 (by rw [hfl2]; omega) (sl_Pair.flat_one _)
    have gh2 : w2.drew.heap[g]? = some (.cells cur 59 (0, 0)) := (hg2'.block g (Nat.lt_of_lt_of_le hg1 hb1.size) (fun e => by injection e; omega)).trans ((hb1.block g hg1).trans hh)
    obtain ⟨w3, hr3, hg3', cur3, hh3, hc3s, hc3l⟩ := sl_Pair.copy_to (P := Try.prog) w2.drew 43 59 w.heap.size ((i + 1) * 2) (cap + 1 - (i + 1)) ⟨g, i * 2, none⟩ (cap - i) (cap - i) (sl_Pair.flat (l0.drop i)) cur2 Try.underlying43 hinfo
      t36_ hfd (sl_Pair.src_of (k := 0) gh2 hsrcd) hh2 (by rw [hfd]; omega) (sl_Pair.flat_one _)
    have hfar : ∀ k, k < w.heap.size → w3.heap[k]? = w.heap[k]? := fun k hlt =>
      (hg3'.block k (Nat.lt_of_lt_of_le hlt (Nat.le_trans hb1.size hg2'.size)) (fun e => by injection e; omega)).trans ((hg2'.block k (Nat.lt_of_lt_of_le hlt hb1.size) (fun e => by injection e; omega)).trans (hb1.block k hlt))
    have hsize : w.heap.size ≤ w3.heap.size := Nat.le_trans hb1.size (Nat.le_trans hg2'.size hg3'.size)
    have R2 : Aside0 (Kd.R k59 59 w3 w0.heap.size (fun k_ => ((P0_ k_ ∨ P2_ k_) ∨ w.heap.size ≤ k_)) (.slice (some ⟨w.heap.size, 0, none⟩) (cap + 1) G) (l0.take i ++ l2 ++ l0.drop i)) := Aside0.mk <| by
      refine sl_Pair.close_ (Or.inr (Nat.le_refl _)) hBS hlen.symm hG1 hG2 hh3 (by rw [hc3s, hc2s, hrs]) ?_
      have e1 : cur2.toList.take ((i + 1) * 2) = sl_Pair.flat (l0.take i) ++ sl_Pair.flat l2 := by
        have e3 : (row.toList.take (i * 2) ++ sl_Pair.flat l2).length = (i + 1) * 2 := by rw [List.length_append, hfl2, List.length_take, Array.length_toList]; omega
        rw [hc2l, List.take_left' e3, hrt]
      have e4 : (sl_Pair.flat (l0.take i) ++ sl_Pair.flat l2 ++ sl_Pair.flat (l0.drop i)).length = (cap + 1) * 2 := by rw [List.length_append, List.length_append, hfl2, hfd, sl_Pair.flat_len, List.length_take, hn]; omega
      rw [hc3l, e1, List.take_left' e4, sl_Pair.flat_append, sl_Pair.flat_append]
    have B2 : Aside0 (Below w0.heap.size w0 w3) := Aside0.mk ⟨hg3'.os.trans (hg2'.os.trans (hb1.os.trans hB.os)), hg3'.tape.trans (hg2'.tape.trans (hb1.tape.trans hB.tape)), hg3'.output.trans (hg2'.output.trans (hb1.output.trans hB.output)), Nat.le_trans hBS hsize, fun k hk => (hfar k (by omega)).trans (hB.block k hk)⟩
    have K2 : Aside0 (Kept w w3 (fun k_ => P0_ k_ ∨ P2_ k_)) := Aside0.mk ⟨hsize, fun k hk hP => hfar k hk⟩
    have hmG : G ≤ 9223372036854775807 := hG2
    have b0 : (i : Int) ≤ (cap : Int) := by omega
    have b1 : (i : Int) + 1 ≤ (cap : Int) + 1 := by omega
    have b2 : (i : Int) ≤ (cap : Int) + 1 := by omega
    have b4 : ¬ (G = i) := by omega
    have b5 : ¬ (G = i + 1) := by omega
    have b14 : ¬ (cap = i) := by omega
    have b6 : (0 : Int) ≤ (i : Int) + 1 := by omega
    have b7 : ¬ ((i : Int) = (cap : Int)) := by omega
    have b8 : ((i : Int) + 1).toNat = i + 1 := by omega
    have b10 : (0 : Int) ≤ (cap : Int) + 1 := by omega
    have b13 : (cap : Int) < (cap : Int) + 1 := by omega
    have b15 : (0 : Int) ≤ (cap : Int) + 1 - (i : Int) := by omega
    have hw1 : IntKind.i64.wrap ((i : Int) + 1) = (i : Int) + 1 := by rw [IntKind.wrap_i64]; omega
    have HR1 := Aside0.mk hr1
    have HR2 := Aside0.mk hr2
    have HR3 := Aside0.mk hr3
    clear hr1 hr2 hr3 hB ho0 ho2 hh vh hh1 hh2 hh3 hc2l hc3l hc2s hc3s htk vtk vcs hcs hsrcv hsrcd htki hfd hfl2 hb1 hg2' hg3' hfar vh1 gh2 hinfo hn hlen hin hc1 hro hp0_2 hp2_0 hl2 hs1 hrs hrt hsize
    go_enter Try.func112, Try.ntmps112
    go_wp2_with (first | ((with_reducible refine gate_builtin (b := .append) (xs := #[.tmp 34, .tmp 39]) rfl ?_); at_builtin; refine Lib.wpList_append_run _ rfl _ _ _ _ rfl _ _ rfl rfl _ _ (HR1.out _) ?_) | ((with_reducible refine gate_builtin (b := .copy) (xs := #[.tmp 43, .tmp 44]) rfl ?_); refine wpList_copy_runI _ rfl (.tmp 43) (.tmp 44) 43 43 rfl _ _ rfl rfl (HR2.out _ _ _) ?_))
    go_region_law_o (refine step_copy_runI rfl (.tmp 50) (.tmp 53) 43 43 rfl _ _ (by simp [Act.eval, Act.put]; rfl) (by simp [Act.eval, Act.put]; rfl) (HR3.out _ _ _) ?_)
    go_wp2
    go_ret
    exact ⟨_, rfl, R2.out, B2.out, K2.out⟩

/-! ### impl_Pair_111: function 111 -/
def impl_Pair_111.f (l0 : List S59) (a1 : Int) (a2 : Int) : Option (List S59) := if 0 ≤ a1 ∧ a2 = a1 + 1 ∧ a2 ≤ l0.length then some (l0.eraseIdx a1.toNat) else none
theorem sl_Pair.clear_run {P : Program} (w : World) (t e ty : TypeId) (z0 z1 : Value) (ht : P.underlying t = some (.slice e)) (hv : ∀ w, (zeroValue e).run P w = .ok (.agg #[z0, z1]) w) (hz0 : z0.cells = #[z0]) (hz1 : z1.cells = #[z1]) (h0 : z0.oneCell' = true) (h1 : z1.oneCell' = true) (b o c : Nat)
    (hc : ∀ j, j < 2 → (w.cell? ⟨b, o + j, none⟩).isSome = true) (hf : ∀ j, j < 2 → w.frozen? ⟨b, o + j, none⟩ = false) :
    (Builtin.clear_ #[t] ty #[.slice (some ⟨b, o, none⟩) 1 c]).run P w = .ok (.tuple #[]) (w.setCells b o [z0, z1]) := by
  have hzz : (Value.agg #[z0, z1]).cells = #[z0, z1] := by simp [Value.cells, hz0, hz1]
  have hzc : (Builtin.zeroCells (Value.agg #[z0, z1]).cells 1).toList = [z0, z1] := by
    rw [hzz]
    simp [Builtin.zeroCells, Array.range_succ]
  have hst := run_storeCells_cells (P := P) b o [z0, z1] 0 w (by simpa using hc) (by simpa using hf) (by intro v hv'; simp at hv'; rcases hv' with rfl | rfl <;> assumption)
  simp only [Nat.add_zero] at hst
  simp [Builtin.clear_, run_underlying ht, hv, hzc, hst]
set_option maxHeartbeats 8000000 in
set_option maxRecDepth 100000 in
theorem impl_Pair_111.calls (P0_ : Nat → Prop) (u9000_ : Value) (l0 : List S59) (a1 : Int) (a2 : Int) (r : List S59) (w0 w : World) (hB : Below w0.heap.size w0 w) (ho0 : Kd.R k59 59 w w0.heap.size P0_ u9000_ l0) (h : impl_Pair_111.f l0 a1 a2 = some r) :
    Calls Try.prog 111 #[u9000_, .int .i64 a1, .int .i64 a2] w fun e w' => ∃ v0_ : Value, e = .returned v0_ ∧ Kd.R k59 59 w' w0.heap.size (fun k_ => (P0_ k_ ∨ w.heap.size ≤ k_)) v0_ r ∧ Below w0.heap.size w0 w' ∧ Kept w w' (fun k_ => P0_ k_) := by
  have hu59 := Try.underlying59
  have hu43 := Try.underlying43
  unfold impl_Pair_111.f at h
  by_cases hc : 0 ≤ a1 ∧ a2 = a1 + 1 ∧ a2 ≤ l0.length
  rotate_left
  · rw [if_neg hc] at h
    exact absurd h (by simp)
  rw [if_pos hc] at h
  obtain rfl := Option.some.inj h
  clear h
  obtain ⟨i, rfl⟩ := Int.eq_ofNat_of_zero_le hc.1
  obtain rfl : a2 = ((i + 1 : Nat) : Int) := hc.2.1
  have hi : i < l0.length := by omega
  rw [Int.toNat_natCast]
  obtain ⟨g, cap, rfl, hg0, hg1, _⟩ := Kd.R_form ho0 (by omega)
  obtain ⟨hok, _, _, hnc, hcm, cur, hh, hcs, htk⟩ := sl_Pair.open_ ho0
  have HO := Aside0.mk ho0
  have HB := Aside0.mk hB
  clear ho0 hB hc
  generalize hn : l0.length = n at *
  have hmx : cap ≤ 9223372036854775807 := hcm
  have b1 : (0 : Int) ≤ ((i : Nat) : Int) := by omega
  have b2 : ((i : Nat) : Int) ≤ (cap : Int) := by omega
  have b3 : (i : Int) + 1 ≤ (n : Int) := by omega
  have b8 : (0 : Int) ≤ (i : Int) + 1 := by omega
  have b9 : (i : Int) ≤ (i : Int) + 1 := by omega
  have b10 : (i : Int) ≤ (n : Int) := by omega
  have b4 : (i : Int) + 1 ≤ (cap : Int) := by omega
  have b5 : ((i : Nat) : Int) ≤ ((i + 1 : Nat) : Int) := by omega
  have b6 : (n : Int) ≤ (cap : Int) := by omega
  have b7 : ¬ (((i : Nat) : Int) = ((i + 1 : Nat) : Int)) := by omega
  have hi59 : ∃ i0, Try.prog.info? 59 = some i0 ∧ i0.size = 2 := by
    obtain ⟨i0, h1, h2⟩ := Option.map_eq_some_iff.1 info59
    exact ⟨i0, h1, by simp at h2; exact h2.2.1⟩
  go_enter Try.func111, Try.ntmps111
  have hA : (if cap = i + 1 then (some (⟨g, 0, none⟩ : Addr)) else some ⟨g, (i + 1) * Kd.sz k59, none⟩) = if cap = i + 1 then some ⟨g, 0, none⟩ else (some (⟨g, 0, none⟩ : Addr)).map (·.add ((i + 1) * Kd.sz k59)) := by
    by_cases hcap : cap = i + 1
    · rw [if_pos hcap, if_pos hcap]
    · rw [if_neg hcap, if_neg hcap]
      rw [show Kd.sz k59 = 2 from rfl]
      simp [Addr.add]
  have hinfo : (Try.prog.info? 59).map (·.size) = some (Kd.sz k59) := by
    obtain ⟨i0, h1, h2⟩ := Option.map_eq_some_iff.1 info59
    rw [h1]
    simp only [Prod.mk.injEq] at h2
    rw [Option.map_some, h2.2.1]
    rfl
  have mixed : Try.prog.follows .mixedOrders = true := by kernel_rfl
  have HO2 := Aside0.mk (Kd.R_drew HO.out)
  have HB2 := Aside0.mk (below_drew1 HB.out)
  go_wp2_with fail
  have hAA := Aside0.mk hA
  have hII := Aside0.mk hinfo
  clear hA hinfo
  go_region_law_o (refine Kd.R_delete_step k59 (w0 := w0) w0.heap.size (m := n - (i + 1)) (c2 := cap - (i + 1)) (A := if cap = i + 1 then (some (⟨g, 0, none⟩ : Addr)) else some ⟨g, (i + 1) * Kd.sz k59, none⟩) (by simp [Region.wanted]) (.tmp 22) (.tmp 25) 43 59 rfl hu43 hII.out (by simp [Act.eval, Act.put]) (by simp only [Act.eval, Act.put]; rfl) hAA.out rfl HO2.out hi HB2.out HB2.out.size ?_; intro w1 HO1 HB1 hgr1)
  obtain ⟨m, rfl⟩ : ∃ m, n = m + 1 := ⟨n - 1, by omega⟩
  rw [Nat.add_sub_cancel] at HO1
  obtain ⟨_, _, hm1, hm2, _, cur1, hh1, hcs1, htk1⟩ := sl_Pair.open_ HO1
  have hcl : ∀ ty, (Builtin.clear_ #[43] ty #[.slice (some ⟨g, m * 2, none⟩) 1 (cap - m)]).run Try.prog w1 = .ok (.tuple #[]) (w1.setCells g (m * 2) [.string ⟨#[]⟩, .string ⟨#[]⟩]) := fun ty =>
    sl_Pair.clear_run w1 43 59 ty _ _ hu43 (fun w => by kernel_rfl) rfl rfl rfl rfl g (m * 2) (cap - m) (fun j hj => by
      rw [cell_of_row w1 g _ cur1 59 (0, 0) hh1, Array.getElem?_eq_getElem (by omega)]
      rfl) (fun j _ => blk_frozen hh1 _)
  obtain ⟨cur2, hh2, hcs2, htk2⟩ := setCells_row (e := 59) [.string ⟨#[]⟩, .string ⟨#[]⟩] (m * 2) w1 cur1 hh1 (by simp; omega)
  obtain ⟨s1, s2, s3, s4⟩ := setCells_same g [.string ⟨#[]⟩, .string ⟨#[]⟩] (m * 2) w1
  have hfar : ∀ k', k' ≠ g → (w1.setCells g (m * 2) [.string ⟨#[]⟩, .string ⟨#[]⟩]).heap[k']? = w1.heap[k']? := fun k' hk' => setCells_far _ _ k' hk'
  have hgr2 : w1.grownBy (w1.setCells g (m * 2) [.string ⟨#[]⟩, .string ⟨#[]⟩]) (some g) := ⟨s1, s2, s3, by rw [s4]; exact Nat.le_refl _, fun k' _ hk' => hfar k' (fun he => hk' (by rw [he]))⟩
  generalize hw2 : w1.setCells g (m * 2) [.string ⟨#[]⟩, .string ⟨#[]⟩] = w2 at *
  have R2 : Aside0 (Kd.R k59 59 w2 w0.heap.size (fun k_ => (P0_ k_ ∨ w.heap.size ≤ k_)) (.slice (some ⟨g, 0, none⟩) m cap) (l0.eraseIdx i)) := Aside0.mk <| by
    refine sl_Pair.close_ (.inl hok) hg0 hm1 hm2 hcm hh2 (by rw [hcs2, hcs1]) ?_
    rw [htk2, List.append_assoc, List.take_left' (by rw [List.length_take]; simp; omega), htk1]
  have B2 : Aside0 (Below w0.heap.size w0 w2) := Aside0.mk (HB1.grown hgr2 HB1.size (fun k hk => by injection hk with hk; subst hk; exact hg0))
  have K2 : Aside0 (Kept w w2 (fun k_ => P0_ k_)) := Aside0.mk ⟨Nat.le_trans hgr1.size hgr2.size, fun k hk hP => by
    have hkg : k ≠ g := fun e => hP (e ▸ hok)
    rw [hfar k hkg]
    exact hgr1.block k hk (fun e => hkg (by injection e))⟩
  have c1 : ¬ (cap = m) := by omega
  have c2 : (0 : Int) ≤ (m : Int) := by omega
  have c3 : (m : Int) ≤ (m : Int) + 1 := by omega
  have c4 : (m : Int) + 1 ≤ (cap : Int) := by omega
  clear HO1 HB1 hgr1 hgr2 hh1 hh2 htk1 htk2 hfar s1 s2 s3 s4 HO2 HB2 HO HB hh htk hm1 hm2 hcs1 hcs2 hn hcs hi hnc hcm hw2
  by_cases hcap : cap = i + 1
  · subst hcap
    go_wp2
    go_ret
    exact ⟨_, rfl, R2.out, B2.out, K2.out⟩
  · go_wp2
    go_ret
    exact ⟨_, rfl, R2.out, B2.out, K2.out⟩

/-! ### impl_withoutKey: function 76 -/
def impl_withoutKey.f (l0 : List (S59)) (a1 : ByteArray) : Option ((List (S59))) := if ([] : List (S59)).length + l0.length < 4398046511104 then ((some (([] : List (S59)) ++ l0 : List (S59))).bind fun y234 => ((impl_pairNo.f l0 a1).bind fun bt237 => (if bt237.2 = true then ((impl_Pair_111.f y234 bt237.1 (wrap64 (bt237.1 + 1))).bind fun t239 => (some t239)) else (some y234)))) else (none)
set_option maxHeartbeats 8000000 in
set_option maxRecDepth 100000 in
theorem impl_withoutKey.calls (A0 : Option Addr) (c0 : Nat) (l0 : List (S59)) (a1 : ByteArray) (r : List (S59)) (w : World) (hr0 : Kd.C k59 w A0 l0.length l0) (hc0 : l0.length ≤ c0) (h : impl_withoutKey.f l0 a1 = some r) :
    Calls Try.prog 76 #[.slice A0 l0.length c0, .string a1] w fun e w' => ∃ v0_ : Value, e = .returned (v0_) ∧ Kd.R k59 59 w' w.heap.size (fun _ => True) v0_ r ∧ Below w.heap.size w w' := by
  have HR0 := Aside0.mk hr0
  have HC0 := Aside0.mk hc0
  clear hr0 hc0
  have HB := Aside0.mk (Below.refl w.heap.size w)
  have H : (if ([] : List (S59)).length + l0.length < 4398046511104 then ((some (([] : List (S59)) ++ l0 : List (S59))).bind fun y234 => ((impl_pairNo.f l0 a1).bind fun bt237 => (if bt237.2 = true then ((impl_Pair_111.f y234 bt237.1 (wrap64 (bt237.1 + 1))).bind fun t239 => (some t239)) else (some y234)))) else (none)) = some r := h
  clear h
  by_cases c3 : ([] : List (S59)).length + l0.length < 4398046511104
  · rw [if_pos c3] at H
    have LMc3 := Aside0.mk c3
    clear c3
    obtain ⟨y234, hy234⟩ : ∃ y_ : List (S59), y_ = (([] : List (S59)) ++ l0) := ⟨_, rfl⟩
    replace H : ((impl_pairNo.f l0 a1).bind fun bt237 => (if bt237.2 = true then ((impl_Pair_111.f y234 bt237.1 (wrap64 (bt237.1 + 1))).bind fun t239 => (some t239)) else (some y234))) = some r := by first | (rw [hy234]; with_reducible exact H) | (have H2_ := (Option.bind_some _ _).symm.trans H; rw [hy234]; with_reducible exact H2_) | (have H2_ := (Option.bind_some _ _).symm.trans H; with_reducible exact H2_) | with_reducible exact H | (rw [hy234]; exact H) | exact H
    have Ny234 := Aside0.mk hy234
    clear hy234
    replace H := Option.bind_eq_some_iff.mp H
    obtain ⟨⟨t237, t238⟩, A40, H⟩ := H
    replace H : (if t238 = true then ((impl_Pair_111.f y234 t237 (wrap64 (t237 + 1))).bind fun t239 => (some t239)) else (some y234)) = some r := H
    have A4 := Aside0.mk A40
    clear A40
    by_cases c5 : t238 = true
    · subst c5
      have H1 : ((impl_Pair_111.f y234 t237 (wrap64 (t237 + 1))).bind fun t239 => (some t239)) = some r := by rw [if_pos rfl] at H; exact H
      clear H
      have H := H1
      clear H1
      replace H := Option.bind_eq_some_iff.mp H
      obtain ⟨t239, A60, H⟩ := H
      replace H : (some t239) = some r := H
      have A6 := Aside0.mk A60
      clear A60
      obtain rfl := Option.some.inj H
      go_enter Try.func76, Try.ntmps76
      go_wp2_with (first | ((with_reducible refine gate_builtin (b := .append) (xs := #[.const (.slice none 0 0), .tmp 8]) rfl ?_); at_builtin; refine Kd.R_append_rows k59 (w0 := w) w.heap.size rfl (.const (.slice none 0 0)) (.tmp 8) 43 59 (.agg #[(.string ⟨#[]⟩), (.string ⟨#[]⟩)]) 32 rfl Try.underlying43 info59 rfl (by decide) (by omega) (.slice none 0 0) ([] : List (S59)) l0 _ _ _ (fun _ => True) (fun _ => False) rfl rfl ?aO ?aR (fun _ _ h => h) (fun _ h => h.elim) ?aF ?aB ?aS ?aL ?_; (case aR => repeat (first | exact HR0.out | (with_reducible refine Kd.C_alloc ?_ _) | (with_reducible refine Kd.C_drewN ?_ _) | (with_reducible refine Kd.C_drew ?_))); (case aB => exact t0_); (case aF => exact (fun _ _ => trivial)); (case aO => exact ((Kd.R_nil _ _ _ _ (fun _ => True)))); (case aS => exact (below_size t0_)); (case aL => have := LMc3.out; omega); intro v235 w7 ho hb hg hat; rw [← Ny234.out] at ho; replace HB := Aside0.mk (hb); have HO236 := Aside0.mk (ho); clear ho hb hg hat) | ((with_reducible refine gate_callee (f := 71) rfl ?_); refine goesL_ (some 13) rfl rfl Try.func71 (by kernel_rfl) rfl #[.slice A0 l0.length c0, .string a1] rfl t4_ ?_; (with_reducible refine (impl_pairNo.calls _ _ l0 a1 t237 true _ ?side1 ?side2 A4.out).mono ?_); (case side1 => exact cB HR0 HB); (case side2 => exact HC0.out); rintro e w8 ⟨rfl, hb⟩; refine ⟨_, rfl, ?_⟩; replace HO236 := Aside0.mk (Kd.R_below (by (with_reducible repeat (first | apply Kd.R_alloc | apply Kd.R_drewN | apply Kd.R_drew)); exact HO236.out) hb); replace HB := Aside0.mk (below_step t0_ hb); (try clear hb); (try clear hb2); (try clear hk); (try clear hi); obtain ⟨Ao9, co9, eo9⟩ := Kd.R_slice HO236.out; subst eo9) | ((with_reducible refine gate_callee (f := 111) rfl ?_); refine goesL_ (some 21) rfl rfl Try.func111 (by kernel_rfl) rfl #[.slice Ao9 y234.length co9, .int .i64 t237, .int .i64 (wrap64 (t237 + 1))] rfl t4_ ?_; (with_reducible refine (impl_Pair_111.calls (fun k_ => some k_ = (.slice Ao9 y234.length co9 : Value).ownBlock) (.slice Ao9 y234.length co9) y234 t237 (wrap64 (t237 + 1)) t239 w _ ?side1 ?side2 A6.out).mono ?_); (case side1 => repeat (first | (with_reducible first | exact HB.out | apply below_alloc | apply pw_below_drewN | apply below_drew1) | exact HB.out)); (case side2 => exact Kd.R_tight rfl HO236.out); rintro e w10 ⟨v240, rfl, ho0, hb, hkp⟩; refine ⟨_, rfl, ?_⟩; have n0_ := Aside0.mk (Kd.R_mono (ok' := fun k_ => True) ho0 (fun k_ hk_ => trivial)); have n1_ := Aside0.mk (hb); clear HB; clear HO236; have HO241 := n0_; have HB := n1_; clear n0_ n1_; (try clear hb); (try clear hkp); (try clear ho0)))
      go_ret
      exact ⟨_, by first | rfl | (simp [errW_none, errW_some] <;> rfl) | (simp [*, errW_none, errW_some] <;> rfl), by (with_reducible repeat (first | apply Kd.R_alloc | apply Kd.R_drewN | apply Kd.R_drew)); exact HO241.out, t0_⟩
    · replace c5 := Bool.eq_false_iff.mpr c5
      subst c5
      have H1 : (some y234) = some r := by rw [if_neg (show ¬ (false = true) by decide)] at H; exact H
      clear H
      have H := H1
      clear H1
      obtain rfl := Option.some.inj H
      go_enter Try.func76, Try.ntmps76
      go_wp2_with (first | ((with_reducible refine gate_builtin (b := .append) (xs := #[.const (.slice none 0 0), .tmp 8]) rfl ?_); at_builtin; refine Kd.R_append_rows k59 (w0 := w) w.heap.size rfl (.const (.slice none 0 0)) (.tmp 8) 43 59 (.agg #[(.string ⟨#[]⟩), (.string ⟨#[]⟩)]) 32 rfl Try.underlying43 info59 rfl (by decide) (by omega) (.slice none 0 0) ([] : List (S59)) l0 _ _ _ (fun _ => True) (fun _ => False) rfl rfl ?aO ?aR (fun _ _ h => h) (fun _ h => h.elim) ?aF ?aB ?aS ?aL ?_; (case aR => repeat (first | exact HR0.out | (with_reducible refine Kd.C_alloc ?_ _) | (with_reducible refine Kd.C_drewN ?_ _) | (with_reducible refine Kd.C_drew ?_))); (case aB => exact t0_); (case aF => exact (fun _ _ => trivial)); (case aO => exact ((Kd.R_nil _ _ _ _ (fun _ => True)))); (case aS => exact (below_size t0_)); (case aL => have := LMc3.out; omega); intro v235 w11 ho hb hg hat; rw [← Ny234.out] at ho; replace HB := Aside0.mk (hb); have HO236 := Aside0.mk (ho); clear ho hb hg hat) | ((with_reducible refine gate_callee (f := 71) rfl ?_); refine goesL_ (some 13) rfl rfl Try.func71 (by kernel_rfl) rfl #[.slice A0 l0.length c0, .string a1] rfl t4_ ?_; (with_reducible refine (impl_pairNo.calls _ _ l0 a1 t237 false _ ?side1 ?side2 A4.out).mono ?_); (case side1 => exact cB HR0 HB); (case side2 => exact HC0.out); rintro e w12 ⟨rfl, hb⟩; refine ⟨_, rfl, ?_⟩; replace HO236 := Aside0.mk (Kd.R_below (by (with_reducible repeat (first | apply Kd.R_alloc | apply Kd.R_drewN | apply Kd.R_drew)); exact HO236.out) hb); replace HB := Aside0.mk (below_step t0_ hb); (try clear hb); (try clear hb2); (try clear hk); (try clear hi)))
      go_ret
      exact ⟨_, by first | rfl | (simp [errW_none, errW_some] <;> rfl) | (simp [*, errW_none, errW_some] <;> rfl), by (with_reducible repeat (first | apply Kd.R_alloc | apply Kd.R_drewN | apply Kd.R_drew)); exact HO236.out, t0_⟩
  · rw [if_neg c3] at H
    exact absurd H (by simp)

/-! ### impl_withKey: function 77 -/
def impl_withKey.f (l0 : List (S59)) (a1 : ByteArray) (a2 : ByteArray) : Option ((List (S59))) := if ([] : List (S59)).length + l0.length < 4398046511104 then ((some (([] : List (S59)) ++ l0 : List (S59))).bind fun y242 => ((impl_pairNo.f l0 a1).bind fun bt245 => (if bt245.2 = true then (if 0 ≤ bt245.1 then (if bt245.1 < (y242.length : Int) then (some (y242.set (bt245.1 : Int).toNat (⟨(rd_T59 y242 bt245.1).f0, a2⟩ : S59))) else (none)) else (none)) else ((impl_Pair_112.f y242 bt245.1 (([(⟨a1, a2⟩ : S59)] : List (S59)))).bind fun t251 => (some t251))))) else (none)
set_option maxHeartbeats 8000000 in
set_option maxRecDepth 100000 in
theorem impl_withKey.calls (A0 : Option Addr) (c0 : Nat) (l0 : List (S59)) (a1 : ByteArray) (a2 : ByteArray) (r : List (S59)) (w : World) (hr0 : Kd.C k59 w A0 l0.length l0) (hc0 : l0.length ≤ c0) (h : impl_withKey.f l0 a1 a2 = some r) :
    Calls Try.prog 77 #[.slice A0 l0.length c0, .string a1, .string a2] w fun e w' => ∃ v0_ : Value, e = .returned (v0_) ∧ Kd.R k59 59 w' w.heap.size (fun _ => True) v0_ r ∧ Below w.heap.size w w' := by
  have hu59 := Try.underlying59
  have HR0 := Aside0.mk hr0
  have HC0 := Aside0.mk hc0
  clear hr0 hc0
  have HB := Aside0.mk (Below.refl w.heap.size w)
  have H : (if ([] : List (S59)).length + l0.length < 4398046511104 then ((some (([] : List (S59)) ++ l0 : List (S59))).bind fun y242 => ((impl_pairNo.f l0 a1).bind fun bt245 => (if bt245.2 = true then (if 0 ≤ bt245.1 then (if bt245.1 < (y242.length : Int) then (some (y242.set (bt245.1 : Int).toNat (⟨(rd_T59 y242 bt245.1).f0, a2⟩ : S59))) else (none)) else (none)) else ((impl_Pair_112.f y242 bt245.1 (([(⟨a1, a2⟩ : S59)] : List (S59)))).bind fun t251 => (some t251))))) else (none)) = some r := h
  clear h
  by_cases c4 : ([] : List (S59)).length + l0.length < 4398046511104
  · rw [if_pos c4] at H
    have LMc4 := Aside0.mk c4
    clear c4
    obtain ⟨y242, hy242⟩ : ∃ y_ : List (S59), y_ = (([] : List (S59)) ++ l0) := ⟨_, rfl⟩
    replace H : ((impl_pairNo.f l0 a1).bind fun bt245 => (if bt245.2 = true then (if 0 ≤ bt245.1 then (if bt245.1 < (y242.length : Int) then (some (y242.set (bt245.1 : Int).toNat (⟨(rd_T59 y242 bt245.1).f0, a2⟩ : S59))) else (none)) else (none)) else ((impl_Pair_112.f y242 bt245.1 (([(⟨a1, a2⟩ : S59)] : List (S59)))).bind fun t251 => (some t251)))) = some r := by first | (rw [hy242]; with_reducible exact H) | (have H2_ := (Option.bind_some _ _).symm.trans H; rw [hy242]; with_reducible exact H2_) | (have H2_ := (Option.bind_some _ _).symm.trans H; with_reducible exact H2_) | with_reducible exact H | (rw [hy242]; exact H) | exact H
    have Ny242 := Aside0.mk hy242
    clear hy242
    replace H := Option.bind_eq_some_iff.mp H
    obtain ⟨⟨t245, t246⟩, A50, H⟩ := H
    replace H : (if t246 = true then (if 0 ≤ t245 then (if t245 < (y242.length : Int) then (some (y242.set (t245 : Int).toNat (⟨(rd_T59 y242 t245).f0, a2⟩ : S59))) else (none)) else (none)) else ((impl_Pair_112.f y242 t245 (([(⟨a1, a2⟩ : S59)] : List (S59)))).bind fun t251 => (some t251))) = some r := H
    have A5 := Aside0.mk A50
    clear A50
    by_cases c6 : t246 = true
    · subst c6
      have H1 : (if 0 ≤ t245 then (if t245 < (y242.length : Int) then (some (y242.set (t245 : Int).toNat (⟨(rd_T59 y242 t245).f0, a2⟩ : S59))) else (none)) else (none)) = some r := by rw [if_pos rfl] at H; exact H
      clear H
      have H := H1
      clear H1
      by_cases c7 : 0 ≤ t245
      · rw [if_pos c7] at H
        have c7b0 : decide (0 ≤ t245) = true := decide_eq_true c7
        clear c7
        by_cases c8 : t245 < (y242.length : Int)
        · rw [if_pos c8] at H
          have c8b0 : decide (t245 < (y242.length : Int)) = true := decide_eq_true c8
          clear c8
          obtain ⟨y247, hy247⟩ : ∃ y_ : List (S59), y_ = (y242.set (t245 : Int).toNat (⟨(rd_T59 y242 t245).f0, a2⟩ : S59)) := ⟨_, rfl⟩
          replace H : (some y247) = some r := by first | (rw [hy247]; with_reducible exact H) | (have H2_ := (Option.bind_some _ _).symm.trans H; rw [hy247]; with_reducible exact H2_) | (have H2_ := (Option.bind_some _ _).symm.trans H; with_reducible exact H2_) | with_reducible exact H | (rw [hy247]; exact H) | exact H
          have Ny247 := Aside0.mk hy247
          clear hy247
          obtain rfl := Option.some.inj H
          go_enter Try.func77, Try.ntmps77
          go_wp2_with (first | ((with_reducible refine gate_builtin (b := .append) (xs := #[.const (.slice none 0 0), .tmp 10]) rfl ?_); at_builtin; refine Kd.R_append_rows k59 (w0 := w) w.heap.size rfl (.const (.slice none 0 0)) (.tmp 10) 43 59 (.agg #[(.string ⟨#[]⟩), (.string ⟨#[]⟩)]) 32 rfl Try.underlying43 info59 rfl (by decide) (by omega) (.slice none 0 0) ([] : List (S59)) l0 _ _ _ (fun _ => True) (fun _ => False) rfl rfl ?aO ?aR (fun _ _ h => h) (fun _ h => h.elim) ?aF ?aB ?aS ?aL ?_; (case aR => repeat (first | exact HR0.out | (with_reducible refine Kd.C_alloc ?_ _) | (with_reducible refine Kd.C_drewN ?_ _) | (with_reducible refine Kd.C_drew ?_))); (case aB => exact t0_); (case aF => exact (fun _ _ => trivial)); (case aO => exact ((Kd.R_nil _ _ _ _ (fun _ => True)))); (case aS => exact (below_size t0_)); (case aL => have := LMc4.out; omega); intro v243 w10 ho hb hg hat; rw [← Ny242.out] at ho; replace HB := Aside0.mk (hb); have HO244 := Aside0.mk (ho); clear ho hb hg hat) | ((with_reducible refine gate_callee (f := 71) rfl ?_); refine goesL_ (some 15) rfl rfl Try.func71 (by kernel_rfl) rfl #[.slice A0 l0.length c0, .string a1] rfl t4_ ?_; (with_reducible refine (impl_pairNo.calls _ _ l0 a1 t245 true _ ?side1 ?side2 A5.out).mono ?_); (case side1 => exact cB HR0 HB); (case side2 => exact HC0.out); rintro e w11 ⟨rfl, hb⟩; refine ⟨_, rfl, ?_⟩; replace HO244 := Aside0.mk (Kd.R_below t30_ hb); replace HB := Aside0.mk (below_step t0_ hb); (try clear hb); (try clear hb2); (try clear hk); (try clear hi); have p9 : 0 ≤ (t245 : Int) := of_decide_eq_true t5_; have q9 : (t245 : Int) < ((y242.length : Int) : Int) := of_decide_eq_true t5_; obtain ⟨go9, co9, eo9, gb9, gl9, cl9, HG9⟩ := Kd.R_form HO244.out (by omega); (first | cases eo9 | (injection eo9 with ea_ en_ ec_; (first | subst ea_ | (injection ea_ with ea_; subst ea_)); subst ec_; clear en_)); have GB9 := Aside0.mk gb9; have GG9 := Aside0.mk HG9; clear gb9 gl9 HG9; obtain ⟨ce9, hcl9, hM9, hcc9, hfr9⟩ := Kd.R_elem HO244.out z59 (t245 : Int) p9 q9; obtain rfl := k59_openM hM9; have hx9_0 : w11.cell? ⟨go9, (t245 : Int).toNat * 2, none⟩ = some (.string ((rd_T59 y242 t245).f0)) := hcc9 0 _ rfl; have hx9_1 : w11.cell? ⟨go9, (t245 : Int).toNat * 2 + 1, none⟩ = some (.string ((rd_T59 y242 t245).f1)) := hcc9 1 _ rfl; have hf9_0 : w11.frozen? ⟨go9, (t245 : Int).toNat * 2, none⟩ = false := hfr9 0; have hf9_1 : w11.frozen? ⟨go9, (t245 : Int).toNat * 2 + 1, none⟩ = false := hfr9 1; clear hcl9 hcc9 hfr9 hM9; replace p9 := eq_true p9; replace q9 := eq_true q9; have HX12 := Aside0.mk (show Kd.R k59 59 w11 w.heap.size (fun _ => True) (.slice (some ⟨go9, 0, none⟩) y242.length co9) y242 from t30_); obtain ⟨ce12, hcl12, hM12, hcc12, hfr12⟩ := Kd.R_elem HX12.out z59 (t245 : Int) (of_decide_eq_true t5_) (by have h_ : (t245 : Int) < ((y242.length : Int) : Int) := of_decide_eq_true t5_; first | exact h_ | (have e_ := (Kd.R_reads' HO244.out).1; omega) | simpa using h_); obtain rfl := k59_openM hM12; have HP12 := Kd.R_seg HX12.out (t245 : Int) (of_decide_eq_true t5_) (by have h_ : (t245 : Int) < ((y242.length : Int) : Int) := of_decide_eq_true t5_; first | exact h_ | (have e_ := (Kd.R_reads' HO244.out).1; omega) | simpa using h_) (seg := [.string a2]) (j := 1) hcl12 hcc12 (show 2 ≤ 2 from by decide) (x' := (⟨(rd_T59 y242 t245).f0, a2⟩ : S59)) (k59_mkM _ _ _ (⟨(rd_T59 y242 t245).f0, a2⟩ : S59) ) (fun _ hk => hk); have hx12_1 := hcc12 1 _ rfl; (try simp only [show (k59).sz = 2 from rfl, Nat.mul_one, Nat.add_zero] at hx12_1); have hf12_1 := hfr12 1; (try simp only [show (k59).sz = 2 from rfl, Nat.mul_one, Nat.add_zero] at hf12_1); clear hcl12 hcc12 hfr12 hM12) | ((with_reducible refine gate_store (t := 9) (p := 23) rfl ?_); refine store_event (t := 9) (p := 23) (v := ?vo_w13) (w1 := (w11.setCell ⟨go9, (t245 : Int).toNat * 2 + 1, none⟩ (.string a2))) ?hg ?ho ?hn ?hr ?_; (case ho => rfl); (case hg => rfl); (case hn => rfl); (case hr => first | (go_simp; done) | (go_simp; rfl)); intro w13 hw; have hg : w11.grownBy w13 (some go9) := (by rw [hw]; exact HP12.2); have hp_ : Kd.R k59 59 w13 w.heap.size (fun _ => True) (.slice (some ⟨go9, 0, none⟩) y242.length co9) y247 := (by rw [hw, Ny247.out]; exact HP12.1); clear HP12; replace HO244 := Aside0.mk (hp_); replace HB := Aside0.mk ((by rw [hw]; exact below_set (HB.out) GB9.out : Below w.heap.size w w13)); clear hg hw hp_))
          go_ret
          exact ⟨_, by first | rfl | (simp [errW_none, errW_some] <;> rfl) | (simp [*, errW_none, errW_some] <;> rfl), by (with_reducible repeat (first | apply Kd.R_alloc | apply Kd.R_drewN | apply Kd.R_drew)); exact HO244.out, t0_⟩
        · rw [if_neg c8] at H
          exact absurd H (by simp)
      · rw [if_neg c7] at H
        exact absurd H (by simp)
    · replace c6 := Bool.eq_false_iff.mpr c6
      subst c6
      have H1 : ((impl_Pair_112.f y242 t245 (([(⟨a1, a2⟩ : S59)] : List (S59)))).bind fun t251 => (some t251)) = some r := by rw [if_neg (show ¬ (false = true) by decide)] at H; exact H
      clear H
      have H := H1
      clear H1
      obtain ⟨y248, hy248⟩ : ∃ y_ : List (S59), y_ = (([(⟨a1, a2⟩ : S59)] : List (S59))) := ⟨_, rfl⟩
      replace H : ((impl_Pair_112.f y242 t245 y248).bind fun t251 => (some t251)) = some r := by first | (rw [hy248]; with_reducible exact H) | (have H2_ := (Option.bind_some _ _).symm.trans H; rw [hy248]; with_reducible exact H2_) | (have H2_ := (Option.bind_some _ _).symm.trans H; with_reducible exact H2_) | with_reducible exact H | (rw [hy248]; exact H) | exact H
      have Ny248 := Aside0.mk hy248
      clear hy248
      replace H := Option.bind_eq_some_iff.mp H
      obtain ⟨t251, A140, H⟩ := H
      replace H : (some t251) = some r := H
      have A14 := Aside0.mk A140
      clear A140
      obtain rfl := Option.some.inj H
      go_enter Try.func77, Try.ntmps77
      go_wp2_with (first | ((with_reducible refine gate_builtin (b := .append) (xs := #[.const (.slice none 0 0), .tmp 10]) rfl ?_); at_builtin; refine Kd.R_append_rows k59 (w0 := w) w.heap.size rfl (.const (.slice none 0 0)) (.tmp 10) 43 59 (.agg #[(.string ⟨#[]⟩), (.string ⟨#[]⟩)]) 32 rfl Try.underlying43 info59 rfl (by decide) (by omega) (.slice none 0 0) ([] : List (S59)) l0 _ _ _ (fun _ => True) (fun _ => False) rfl rfl ?aO ?aR (fun _ _ h => h) (fun _ h => h.elim) ?aF ?aB ?aS ?aL ?_; (case aR => repeat (first | exact HR0.out | (with_reducible refine Kd.C_alloc ?_ _) | (with_reducible refine Kd.C_drewN ?_ _) | (with_reducible refine Kd.C_drew ?_))); (case aB => exact t0_); (case aF => exact (fun _ _ => trivial)); (case aO => exact ((Kd.R_nil _ _ _ _ (fun _ => True)))); (case aS => exact (below_size t0_)); (case aL => have := LMc4.out; omega); intro v243 w15 ho hb hg hat; rw [← Ny242.out] at ho; replace HB := Aside0.mk (hb); have HO244 := Aside0.mk (ho); clear ho hb hg hat) | ((with_reducible refine gate_callee (f := 71) rfl ?_); refine goesL_ (some 15) rfl rfl Try.func71 (by kernel_rfl) rfl #[.slice A0 l0.length c0, .string a1] rfl t4_ ?_; (with_reducible refine (impl_pairNo.calls _ _ l0 a1 t245 false _ ?side1 ?side2 A5.out).mono ?_); (case side1 => exact cB HR0 HB); (case side2 => exact HC0.out); rintro e w16 ⟨rfl, hb⟩; refine ⟨_, rfl, ?_⟩; replace HO244 := Aside0.mk (Kd.R_below t30_ hb); replace HB := Aside0.mk (below_step t0_ hb); (try clear hb); (try clear hb2); (try clear hk); (try clear hi)) | ((with_reducible refine gate_dst (N := 30) rfl ?_); refine Kd.R_lit k59 _ 59 ?hg (N := 30) ?hd (xs := ([(⟨a1, a2⟩ : S59)] : List (S59))) (inner := [.string a1, .string a2]) (ok := fun _ => True) (okp := fun _ => True) ?hr ?hp (fun _ hk => hk) trivial (Below.refl _ _) (Nat.le_refl _) (by simp) ?_; (case hd => rfl); (case hg => rfl); (case hr => first | (go_simp; done) | (go_simp; rfl)); (case hp => exact (Reps.c2 (show Kd.M k59 _ _ _ (⟨a1, a2⟩ : S59) [.string a1, .string a2] from (k59_mkM _ _ _ (⟨a1, a2⟩ : S59) )) (Reps.none _ _))); intro v249 w17 ho18 hb hg_ hnew_; clear hg_ hnew_; (first | rw [← Ny248.out] at ho18 | (simp only [Int.reduceToNat] at ho18; rw [← Ny248.out] at ho18)); have HO250 := Aside0.mk (Kd.R_lower (Kd.R_new' ho18 (Kd.R_lt t30_)) (below_size t0_)); replace HO244 := Aside0.mk (Kd.R_elder' t30_ (Kd.R_base ho18) hb); replace HB := Aside0.mk (below_step t0_ hb); clear hb ho18; obtain ⟨Ao19, co19, eo19⟩ := Kd.R_slice HO244.out; subst eo19; obtain ⟨Ao20, co20, eo20⟩ := Kd.R_slice HO250.out; subst eo20) | ((with_reducible refine gate_callee (f := 112) rfl ?_); refine goesL_ (some 31) rfl rfl Try.func112 (by kernel_rfl) rfl #[.slice Ao19 y242.length co19, .int .i64 t245, .slice Ao20 y248.length co20] rfl t4_ ?_; (with_reducible refine (impl_Pair_112.calls (fun k_ => some k_ = (.slice Ao19 y242.length co19 : Value).ownBlock) (.slice Ao19 y242.length co19) y242 t245 (fun k_ => some k_ = (.slice Ao20 y248.length co20 : Value).ownBlock) (.slice Ao20 y248.length co20) y248 t251 w _ ?side1 ?side2 ?side3 ?side4 ?side5 A14.out).mono ?_); (case side1 => repeat (first | (with_reducible first | exact HB.out | apply below_alloc | apply pw_below_drewN | apply below_drew1) | exact HB.out)); (case side2 => exact Kd.R_tight rfl HO244.out); (case side3 => exact fun k_ e_ => (HO244.out.1 k_ e_.symm).2); (case side4 => exact Kd.R_tight rfl HO250.out); (case side5 => exact fun k_ e_ => (HO250.out.1 k_ e_.symm).2); rintro e w21 ⟨v252, rfl, ho0, hb, hkp⟩; refine ⟨_, rfl, ?_⟩; have n0_ := Aside0.mk (Kd.R_mono (ok' := fun k_ => True) ho0 (fun k_ hk_ => trivial)); have n1_ := Aside0.mk (hb); clear HB; clear HO244; clear HO250; have HO253 := n0_; have HB := n1_; clear n0_ n1_; (try clear hb); (try clear hkp); (try clear ho0)))
      go_ret
      exact ⟨_, by first | rfl | (simp [errW_none, errW_some] <;> rfl) | (simp [*, errW_none, errW_some] <;> rfl), by (with_reducible repeat (first | apply Kd.R_alloc | apply Kd.R_drewN | apply Kd.R_drew)); exact HO253.out, t0_⟩
  · rw [if_neg c4] at H
    exact absurd H (by simp)

/-! ### impl_MapDo: function 25 -/
mutual
def impl_MapDo.j0 : Nat → List (S59) → Bool → Int → List (S109) → Option ((List (S59)) × Bool)
  | 0, _, _, _, _ => none
  | k + 1, x0, x16, x255000, x255001 => if x16 = true then (some (([] : List (S59)), false)) else (if ([] : List (S59)).length + x0.length < 4398046511104 then (impl_MapDo.l0 k (([] : List (S59)) ++ x0) x255001 (x255001.length : Int) 0) else (none))
def impl_MapDo.l0 : Nat → List (S59) → List (S109) → Int → Int → Option ((List (S59)) × Bool)
  | 0, _, _, _, _ => none
  | k + 1, x6, x20, x21, x22 => if x22 < x21 then (if 0 ≤ x22 then (if x22 < (x20.length : Int) then (if (rd_T109 x20 x22).f2 = true then ((impl_withoutKey.f x6 ((rd_T109 x20 x22).f0)).bind fun t263 => (impl_MapDo.l0 k t263 x20 x21 (wrap64 (x22 + 1)))) else ((impl_withKey.f x6 ((rd_T109 x20 x22).f0) ((rd_T109 x20 x22).f1)).bind fun t266 => (impl_MapDo.l0 k t266 x20 x21 (wrap64 (x22 + 1))))) else (none)) else (none)) else ((impl_MapOk.f k x6).bind fun t260 => (if t260 = true then (some (x6, true)) else (some (([] : List (S59)), false))))
end
def impl_MapDo.f (k : Nat) (l0 : List (S59)) (a1_0 : Int) (l1_1 : List (S109)) : Option ((List (S59)) × Bool) := (impl_MapOk.f k l0).bind fun t255 => (if t255 = true then ((impl_BatchOk.f k a1_0 l1_1).bind fun t256 => (impl_MapDo.j0 k l0 (!t256) a1_0 l1_1)) else (impl_MapDo.j0 k l0 true a1_0 l1_1))
theorem impl_MapDo.mono_l : ∀ k, (∀ y0 y1 y2 y3, LeO (impl_MapDo.j0 k y0 y1 y2 y3) (impl_MapDo.j0 (k + 1) y0 y1 y2 y3)) ∧ (∀ y0 y1 y2 y3, LeO (impl_MapDo.l0 k y0 y1 y2 y3) (impl_MapDo.l0 (k + 1) y0 y1 y2 y3))
  | 0 => ⟨fun _ _ _ _ r h => by simp [impl_MapDo.j0] at h, fun _ _ _ _ r h => by simp [impl_MapDo.l0] at h⟩
  | k + 1 => by
    obtain ⟨ih0, ih1⟩ := impl_MapDo.mono_l k
    refine ⟨?_, ?_⟩
    · intro y0 y1 y2 y3
      unfold impl_MapDo.j0
      repeat' first
      | (with_reducible exact ih0 _ _ _ _)
      | (with_reducible exact ih1 _ _ _ _)
      | (with_reducible exact impl_BatchOk.mono _ _ _)
      | (with_reducible exact impl_MapOk.mono _ _)
      | (with_reducible exact LeO.refl _)
      | (with_reducible exact LeO.none _)
      | (with_reducible refine LeO.ite ?_ ?_)
      | (with_reducible refine LeO.bind ?_ (fun _ => ?_))
      | exact ih0 _ _ _ _
      | exact ih1 _ _ _ _
      | exact impl_BatchOk.mono _ _ _
      | exact impl_MapOk.mono _ _
      | exact LeO.none _
      | refine LeO.ite ?_ ?_
      | refine LeO.bind ?_ (fun _ => ?_)
    · intro y0 y1 y2 y3
      unfold impl_MapDo.l0
      repeat' first
      | (with_reducible exact ih0 _ _ _ _)
      | (with_reducible exact ih1 _ _ _ _)
      | (with_reducible exact impl_BatchOk.mono _ _ _)
      | (with_reducible exact impl_MapOk.mono _ _)
      | (with_reducible exact LeO.refl _)
      | (with_reducible exact LeO.none _)
      | (with_reducible refine LeO.ite ?_ ?_)
      | (with_reducible refine LeO.bind ?_ (fun _ => ?_))
      | exact ih0 _ _ _ _
      | exact ih1 _ _ _ _
      | exact impl_BatchOk.mono _ _ _
      | exact impl_MapOk.mono _ _
      | exact LeO.none _
      | refine LeO.ite ?_ ?_
      | refine LeO.bind ?_ (fun _ => ?_)
theorem impl_MapDo.mono : ∀ a0 a1 a2 k, LeO (impl_MapDo.f k a0 a1 a2) (impl_MapDo.f (k + 1) a0 a1 a2) := by
  intro a0 a1 a2 k
  obtain ⟨ih0, ih1⟩ := impl_MapDo.mono_l k
  unfold impl_MapDo.f
  repeat' first
      | (with_reducible exact ih0 _ _ _ _)
      | (with_reducible exact ih1 _ _ _ _)
      | (with_reducible exact impl_BatchOk.mono _ _ _)
      | (with_reducible exact impl_MapOk.mono _ _)
      | (with_reducible exact LeO.refl _)
      | (with_reducible exact LeO.none _)
      | (with_reducible refine LeO.ite ?_ ?_)
      | (with_reducible refine LeO.bind ?_ (fun _ => ?_))
      | exact ih0 _ _ _ _
      | exact ih1 _ _ _ _
      | exact impl_BatchOk.mono _ _ _
      | exact impl_MapOk.mono _ _
      | exact LeO.none _
      | refine LeO.ite ?_ ?_
      | refine LeO.bind ?_ (fun _ => ?_)
set_option maxHeartbeats 8000000 in
set_option maxRecDepth 100000 in
theorem impl_MapDo.calls (k : Nat) (A0 : Option Addr) (c0 : Nat) (l0 : List (S59)) (a1_0 : Int) (A1_1 : Option Addr) (c1_1 : Nat) (l1_1 : List (S109)) (r1 : List (S59)) (r2 : Bool) (w : World) (hr0 : Kd.C k59 w A0 l0.length l0) (hc0 : l0.length ≤ c0) (hr1_1 : Kd.C k109 w A1_1 l1_1.length l1_1) (hc1_1 : l1_1.length ≤ c1_1) (h : impl_MapDo.f k l0 a1_0 l1_1 = some (r1, r2)) :
    Calls Try.prog 25 #[.slice A0 l0.length c0, .agg #[.int .i64 a1_0, .slice A1_1 l1_1.length c1_1]] w fun e w' => ∃ v0_ : Value, e = .returned (.tuple #[v0_, .bool r2]) ∧ Kd.R k59 59 w' w.heap.size (fun _ => True) v0_ r1 ∧ Below w.heap.size w w' := by
  have hu52 := Try.underlying52
  have hu109 := Try.underlying109
  have HR0 := Aside0.mk hr0
  have HC0 := Aside0.mk hc0
  clear hr0 hc0
  have HR1_1 := Aside0.mk hr1_1
  have HC1_1 := Aside0.mk hc1_1
  clear hr1_1 hc1_1
  have HB := Aside0.mk (Below.refl w.heap.size w)
  have H : ((impl_MapOk.f k l0).bind fun t255 => (if t255 = true then ((impl_BatchOk.f k a1_0 l1_1).bind fun t256 => (impl_MapDo.j0 k l0 (!t256) a1_0 l1_1)) else (impl_MapDo.j0 k l0 true a1_0 l1_1))) = some (r1, r2) := h
  clear h
  have HC3 := Aside0.mk H
  clear H
  go_enter Try.func25, Try.ntmps25
  go_upto_region 1 with (first | ((with_reducible refine gate_dst (N := 3) rfl ?_); refine boxE (N := 3) (cs := #[.int .i64 a1_0, .slice A1_1 l1_1.length c1_1]) (t := 52) (h := ?_); intro gb254 hg w4 hbox hb; have BK254 := Aside0.mk (hbox); have GW254 := Aside0.mk ((t2_ : w.heap.size ≤ gb254)); have GE254 := Aside0.mk ((t2_ : w.heap.size ≤ gb254)); replace HB := Aside0.mk (below_step t0_ hb); clear hb hbox hg))
  (try simp only [Act.put, List.setIfInBounds_toArray, List.set_cons_zero, List.set_cons_succ])
  go_cut [16] (fun v16 wc => ∃ (kq : Nat) (x16_2 : Bool), v16 = .bool x16_2 ∧ Aside0 (impl_MapDo.j0 kq l0 x16_2 a1_0 l1_1 = some (r1, r2)) ∧ Aside0 (kq ≤ k) ∧ Aside0 (wc.heap[gb254]? = some (.cells #[.int .i64 a1_0, (.slice A1_1 l1_1.length c1_1)] 52 (0, 0))) ∧ Aside0 (Below w.heap.size w wc))
  case first =>
    have H := HC3.out
    clear HC3
    replace H := Option.bind_eq_some_iff.mp H
    obtain ⟨t255, A50, H⟩ := H
    replace H : (if t255 = true then ((impl_BatchOk.f k a1_0 l1_1).bind fun t256 => (impl_MapDo.j0 k l0 (!t256) a1_0 l1_1)) else (impl_MapDo.j0 k l0 true a1_0 l1_1)) = some (r1, r2) := H
    have A5 := Aside0.mk A50
    clear A50
    by_cases c6 : t255 = true
    · subst c6
      have H1 : ((impl_BatchOk.f k a1_0 l1_1).bind fun t256 => (impl_MapDo.j0 k l0 (!t256) a1_0 l1_1)) = some (r1, r2) := by rw [if_pos rfl] at H; exact H
      clear H
      have H := H1
      clear H1
      replace H := Option.bind_eq_some_iff.mp H
      obtain ⟨t256, A70, H⟩ := H
      replace H : (impl_MapDo.j0 k l0 (!t256) a1_0 l1_1) = some (r1, r2) := H
      have A7 := Aside0.mk A70
      clear A70
      have H' := Aside0.mk H
      clear H
      go_wp2_with (first | ((with_reducible refine gate_callee (f := 70) rfl ?_); refine goesL_ (some 10) rfl rfl Try.func70 (by kernel_rfl) rfl #[.slice A0 l0.length c0] rfl t4_ ?_; (with_reducible refine (impl_MapOk.calls k _ _ l0 true _ ?side1 ?side2 A5.out).mono ?_); (case side1 => exact cB HR0 HB); (case side2 => exact HC0.out); rintro e w8 ⟨rfl, hb⟩; refine ⟨_, rfl, ?_⟩; replace BK254 := bkN BK254 hb; replace HB := Aside0.mk (below_step t11_ hb); (try clear hb); (try clear hb2); (try clear hk); (try clear hi); have hcz9_0 := bc0 BK254; have hcz9_1 := bc1 BK254; have hfz9_0 := bf BK254 0; have hfz9_1 := bf BK254 1) | (go_at_call 75; (with_reducible refine (impl_BatchOk.calls k a1_0 _ _ l1_1 t256 _ ?side1 ?side2 A7.out).mono ?_); (case side1 => exact cB HR1_1 HB); (case side2 => exact HC1_1.out); rintro e w10 ⟨rfl, hb⟩; replace BK254 := bkN BK254 hb; replace HB := Aside0.mk (below_step t11_ hb); (try clear hb); (try clear hb2); (try clear hk); (try clear hi)))
      go_meet
      case rel => exact ⟨_, (!t256), t14_, H', ⟨by first | omega | exact Nat.le_refl _⟩, ⟨by (with_reducible repeat (first | refine blk_drewN ?_ _ | refine blk_drew ?_ | refine blk_alloc ?_ _)); exact BK254.out⟩, ⟨t11_⟩⟩
    · replace c6 := Bool.eq_false_iff.mpr c6
      subst c6
      have H1 : (impl_MapDo.j0 k l0 true a1_0 l1_1) = some (r1, r2) := by rw [if_neg (show ¬ (false = true) by decide)] at H; exact H
      clear H
      have H := H1
      clear H1
      have H' := Aside0.mk H
      clear H
      go_wp2_with (first | ((with_reducible refine gate_callee (f := 70) rfl ?_); refine goesL_ (some 10) rfl rfl Try.func70 (by kernel_rfl) rfl #[.slice A0 l0.length c0] rfl t4_ ?_; (with_reducible refine (impl_MapOk.calls k _ _ l0 false _ ?side1 ?side2 A5.out).mono ?_); (case side1 => exact cB HR0 HB); (case side2 => exact HC0.out); rintro e w11 ⟨rfl, hb⟩; refine ⟨_, rfl, ?_⟩; replace BK254 := bkN BK254 hb; replace HB := Aside0.mk (below_step t11_ hb); (try clear hb); (try clear hb2); (try clear hk); (try clear hi)))
      go_meet
      case rel => exact ⟨_, (true), t14_, H', ⟨by first | omega | exact Nat.le_refl _⟩, ⟨by (with_reducible repeat (first | refine blk_drewN ?_ _ | refine blk_drew ?_ | refine blk_alloc ?_ _)); exact BK254.out⟩, ⟨t11_⟩⟩
  case rest =>
    clear HC3
    try clear c1
    try clear c2
    try clear p2
    try clear c6
    try clear c7
    try clear hcz9_0
    try clear hcz9_1
    try clear hfz9_0
    try clear hfz9_1
    obtain ⟨kq, x16_2, rfl, HA, HJ2, BK254, HB⟩ := hcut
    cases kq with
    | zero => exact absurd HA.out (by simp [impl_MapDo.j0])
    | succ kj2 =>
      have H := HA.out
      clear HA
      simp only [impl_MapDo.j0] at H
      by_cases c12 : x16_2 = true
      · subst c12
        have H1 : (some (([] : List (S59)), false)) = some (r1, r2) := by rw [if_pos rfl] at H; exact H
        clear H
        have H := H1
        clear H1
        simp only [Option.some.injEq, Prod.mk.injEq] at H
        obtain ⟨rfl, rfl⟩ := H
        go_wp2
        go_ret2
        exact ⟨_, by first | rfl | (simp [errW_none, errW_some] <;> rfl) | (simp [*, errW_none, errW_some] <;> rfl), by first | exact Kd.R_nil _ _ _ _ _ | exact Kd.N_nil _ _ _ _ _ | exact Kd.V_nil _ _ _ _ _ | exact Kd.Q_nil _ _ _ _ _ | exact Kd.S_nil _ _ _ _ _, t11_⟩
      · replace c12 := Bool.eq_false_iff.mpr c12
        subst c12
        have H1 : (if ([] : List (S59)).length + l0.length < 4398046511104 then (impl_MapDo.l0 kj2 (([] : List (S59)) ++ l0) l1_1 (l1_1.length : Int) 0) else (none)) = some (r1, r2) := by rw [if_neg (show ¬ (false = true) by decide)] at H; exact H
        clear H
        have H := H1
        clear H1
        by_cases c13 : ([] : List (S59)).length + l0.length < 4398046511104
        · rw [if_pos c13] at H
          have LMc13 := Aside0.mk c13
          clear c13
          obtain ⟨y257, hy257⟩ : ∃ y_ : List (S59), y_ = (([] : List (S59)) ++ l0) := ⟨_, rfl⟩
          replace H : (impl_MapDo.l0 kj2 y257 l1_1 (l1_1.length : Int) 0) = some (r1, r2) := by first | (rw [hy257]; with_reducible exact H) | (have H2_ := (Option.bind_some _ _).symm.trans H; rw [hy257]; with_reducible exact H2_) | (have H2_ := (Option.bind_some _ _).symm.trans H; with_reducible exact H2_) | with_reducible exact H | (rw [hy257]; exact H) | exact H
          have Ny257 := Aside0.mk hy257
          clear hy257
          have H' := Aside0.mk H
          clear H
          go_wp2_with (first | ((with_reducible refine gate_builtin (b := .append) (xs := #[.const (.slice none 0 0), .tmp 17]) rfl ?_); at_builtin; refine Kd.R_append_rows k59 (w0 := w) w.heap.size rfl (.const (.slice none 0 0)) (.tmp 17) 43 59 (.agg #[(.string ⟨#[]⟩), (.string ⟨#[]⟩)]) 32 rfl Try.underlying43 info59 rfl (by decide) (by omega) (.slice none 0 0) ([] : List (S59)) l0 _ _ _ (fun _ => True) (fun _ => False) rfl rfl ?aO ?aR (fun _ _ h => h) (fun _ h => h.elim) ?aF ?aB ?aS ?aL ?_; (case aR => exact cB HR0 HB); (case aB => exact t11_); (case aF => exact (fun _ _ => trivial)); (case aO => exact ((Kd.R_nil _ _ _ _ (fun _ => True)))); (case aS => exact (below_size t11_)); (case aL => have := LMc13.out; omega); intro v258 w14 ho hb hg hat; rw [← Ny257.out] at ho; replace BK254 := Aside0.mk (blk_grown (g := gb254) (o := .cells #[.int .i64 a1_0, .slice A1_1 l1_1.length c1_1] 52 (0, 0)) (by (with_reducible repeat (first | refine blk_drewN ?_ _ | refine blk_drew ?_ | refine blk_alloc ?_ _)); exact BK254.out) hg (by simp [Value.ownBlock])); replace HB := Aside0.mk (hb); have HO259 := Aside0.mk (ho); clear ho hb hg hat; have hcz15_0 := bc0 BK254; have hcz15_1 := bc1 BK254; have hfz15_0 := bf BK254 0; have hfz15_1 := bf BK254 1))
          go_loopg [6, 22] kj2 (fun kq v6 v22 w' => ∃ (x6_2 : List (S59)) (x22_2 : Int), v22 = .int .i64 x22_2 ∧ Aside0 (impl_MapDo.l0 kq x6_2 l1_1 (l1_1.length : Int) x22_2 = some (r1, r2)) ∧ Aside0 (kq ≤ kj2) ∧ Aside0 (Kd.R k59 59 w' w.heap.size (fun _ => True) v6 x6_2) ∧ Aside0 (w'.heap[gb254]? = some (.cells #[.int .i64 a1_0, (.slice A1_1 l1_1.length c1_1)] 52 (0, 0))) ∧ Aside0 (Below w.heap.size w w'))
          case atStart => exact ⟨(y257), (0), t14_, H', ⟨Nat.le_refl _⟩, ⟨by (with_reducible repeat (first | apply Kd.R_alloc | apply Kd.R_drewN | apply Kd.R_drew)); exact HO259.out⟩, ⟨by (with_reducible repeat (first | refine blk_drewN ?_ _ | refine blk_drew ?_ | refine blk_alloc ?_ _)); exact BK254.out⟩, ⟨t11_⟩⟩
          case round =>
            clear H'
            try clear c1
            try clear c2
            try clear p2
            try clear c6
            try clear c7
            try clear c12
            try clear c13
            try clear hcz15_0
            try clear hcz15_1
            try clear hcz9_0
            try clear hcz9_1
            try clear hfz15_0
            try clear hfz15_1
            try clear hfz9_0
            try clear hfz9_1
            try clear p2
            obtain ⟨x6_2, x22_2, rfl, HA, HK2, HO_6, BK254, HB⟩ := hrel
            cases gk with
            | zero => exact absurd HA.out (by simp [impl_MapDo.l0])
            | succ k2 =>
              have H := HA.out
              clear HA
              simp only [impl_MapDo.l0] at H
              by_cases c16 : x22_2 < (l1_1.length : Int)
              · rw [if_pos c16] at H
                have c16b0 : decide (x22_2 < (l1_1.length : Int)) = true := decide_eq_true c16
                clear c16
                by_cases c17 : 0 ≤ x22_2
                · rw [if_pos c17] at H
                  have c17b0 : decide (0 ≤ x22_2) = true := decide_eq_true c17
                  clear c17
                  by_cases c18 : x22_2 < (l1_1.length : Int)
                  · rw [if_pos c18] at H
                    have c18b0 : decide (x22_2 < (l1_1.length : Int)) = true := decide_eq_true c18
                    clear c18
                    obtain ⟨bq19, hbq19⟩ : ∃ b_ : Bool, b_ = ((rd_T109 l1_1 x22_2).f2) := ⟨_, rfl⟩
                    replace H : (if bq19 = true then ((impl_withoutKey.f x6_2 ((rd_T109 l1_1 x22_2).f0)).bind fun t263 => (impl_MapDo.l0 k2 t263 l1_1 (l1_1.length : Int) (wrap64 (x22_2 + 1)))) else ((impl_withKey.f x6_2 ((rd_T109 l1_1 x22_2).f0) ((rd_T109 l1_1 x22_2).f1)).bind fun t266 => (impl_MapDo.l0 k2 t266 l1_1 (l1_1.length : Int) (wrap64 (x22_2 + 1))))) = some (r1, r2) := by rw [← hbq19] at H; exact H
                    have Nbq19 := Aside0.mk hbq19
                    clear hbq19
                    by_cases c20 : bq19 = true
                    · subst c20
                      have H1 : ((impl_withoutKey.f x6_2 ((rd_T109 l1_1 x22_2).f0)).bind fun t263 => (impl_MapDo.l0 k2 t263 l1_1 (l1_1.length : Int) (wrap64 (x22_2 + 1)))) = some (r1, r2) := by rw [if_pos rfl] at H; exact H
                      clear H
                      have H := H1
                      clear H1
                      replace H := Option.bind_eq_some_iff.mp H
                      obtain ⟨t263, A210, H⟩ := H
                      replace H : (impl_MapDo.l0 k2 t263 l1_1 (l1_1.length : Int) (wrap64 (x22_2 + 1))) = some (r1, r2) := H
                      have A21 := Aside0.mk A210
                      clear A210
                      have H' := Aside0.mk H
                      clear H
                      have p261 : 0 ≤ (x22_2 : Int) := of_decide_eq_true t5_
                      have q261 : x22_2 < (l1_1.length : Int) := of_decide_eq_true t5_
                      obtain ⟨ad261, e261, hx261_0, hx261_1, hx261_2⟩ := at_T109 HR1_1.out x22_2 p261 q261
                      (try rw [← Nbq19.out] at hx261_2)
                      (try rw [← Nbq19.out] at hw261_2)
                      cases e261
                      replace hx261_0 := (HB.out.cell (World.block_lt_of_cell? w _ hx261_0)).trans hx261_0
                      replace hx261_1 := (HB.out.cell (World.block_lt_of_cell? w _ hx261_1)).trans hx261_1
                      replace hx261_2 := (HB.out.cell (World.block_lt_of_cell? w _ hx261_2)).trans hx261_2
                      replace p261 := eq_true p261
                      replace q261 := eq_true q261
                      go_wp2_with (first | ((with_reducible refine gate_dst (N := 8) rfl ?_); refine boxE (N := 8) (cs := #[.string (⟨#[]⟩ : ByteArray), .string (⟨#[]⟩ : ByteArray), .bool false]) (t := 109) (h := ?_); intro gb262 hg w22 hbox hb; replace HO_6 := Aside0.mk (Kd.R_below t12_ hb); have BK262 := Aside0.mk (hbox); have GW262 := Aside0.mk ((t23_ : w.heap.size ≤ gb262)); have GE262 := Aside0.mk ((t23_ : w.heap.size ≤ gb262)); replace HB := Aside0.mk (below_step t11_ hb); have NB254_262 := nbL BK254 hg; have NB262_254 := nbG BK254 hg; replace BK254 := bkN BK254 hb; clear hb hbox hg; have hnb23 := NB262_254.out; have hnc23 := NB254_262.out; have hcz24_0 := bc0 BK262; have hcz24_1 := bc1 BK262; have hcz24_2 := bc2 BK262; have hfz24_0 := bf BK262 0; have hfz24_1 := bf BK262 1; have hfz24_2 := bf BK262 2; obtain ⟨Ao25, co25, eo25⟩ := Kd.R_slice HO_6.out; subst eo25) | ((with_reducible refine gate_callee (f := 76) rfl ?_); refine goesL_ (some 31) rfl rfl Try.func76 (by kernel_rfl) rfl #[.slice Ao25 x6_2.length co25, .string ((rd_T109 l1_1 x22_2).f0)] rfl t4_ ?_; (with_reducible refine (impl_withoutKey.calls _ _ x6_2 ((rd_T109 l1_1 x22_2).f0) t263 _ ?side1 ?side2 A21.out).mono ?_); (case side1 => refine (Kd.R_reads' (e := 59) (base := w.heap.size) (ok := fun k_ => True) (n := x6_2.length) (c := co25) ?_).2.2; exact (by (with_reducible repeat (first | apply Kd.R_alloc | apply Kd.R_drewN | apply Kd.R_drew)); exact (Kd.R_mono (Kd.R_far (p := ⟨gb262, 2, none⟩) (Kd.R_far (p := ⟨gb262, 1, none⟩) (Kd.R_far (p := ⟨gb262, 0, none⟩) (Kd.R_types HO_6.out BK262.out (by decide)) (fun _ hk => hk.2) (.string ((rd_T109 l1_1 x22_2).f0))) (fun _ hk => hk.2) (.string ((rd_T109 l1_1 x22_2).f1))) (fun _ hk => hk.2) (.bool true)) (fun _ h_ => h_.1)))); (case side2 => exact (Kd.R_reads' HO_6.out).2.1); rintro e w26 ⟨v264, rfl, ho0, hb⟩; refine ⟨_, rfl, ?_⟩; have HO265 := Aside0.mk (Kd.R_lower (Kd.R_new' ho0 (Kd.R_lt (by (with_reducible repeat (first | apply Kd.R_alloc | apply Kd.R_drewN | apply Kd.R_drew)); exact (Kd.R_mono (Kd.R_far (p := ⟨gb262, 2, none⟩) (Kd.R_far (p := ⟨gb262, 1, none⟩) (Kd.R_far (p := ⟨gb262, 0, none⟩) (Kd.R_types HO_6.out BK262.out (by decide)) (fun _ hk => hk.2) (.string ((rd_T109 l1_1 x22_2).f0))) (fun _ hk => hk.2) (.string ((rd_T109 l1_1 x22_2).f1))) (fun _ hk => hk.2) (.bool true)) (fun _ h_ => h_.1))))) (below_size t17_)); replace HO_6 := Aside0.mk (Kd.R_elder' (by (with_reducible repeat (first | apply Kd.R_alloc | apply Kd.R_drewN | apply Kd.R_drew)); exact (Kd.R_mono (Kd.R_far (p := ⟨gb262, 2, none⟩) (Kd.R_far (p := ⟨gb262, 1, none⟩) (Kd.R_far (p := ⟨gb262, 0, none⟩) (Kd.R_types HO_6.out BK262.out (by decide)) (fun _ hk => hk.2) (.string ((rd_T109 l1_1 x22_2).f0))) (fun _ hk => hk.2) (.string ((rd_T109 l1_1 x22_2).f1))) (fun _ hk => hk.2) (.bool true)) (fun _ h_ => h_.1))) (Kd.R_base ho0) hb); replace BK254 := Aside0.mk (blk_below (g := gb254) (o := .cells #[.int .i64 a1_0, .slice (some ad261) l1_1.length c1_1] 52 (0, 0)) (by (with_reducible repeat (first | refine blk_drewN ?_ _ | refine blk_drew ?_ | refine blk_alloc ?_ _)); refine blk_far ?_ NB254_262.out _; (with_reducible repeat (first | refine blk_drewN ?_ _ | refine blk_drew ?_ | refine blk_alloc ?_ _)); refine blk_far ?_ NB254_262.out _; (with_reducible repeat (first | refine blk_drewN ?_ _ | refine blk_drew ?_ | refine blk_alloc ?_ _)); refine blk_far ?_ NB254_262.out _; (with_reducible repeat (first | refine blk_drewN ?_ _ | refine blk_drew ?_ | refine blk_alloc ?_ _)); exact BK254.out) hb); replace BK262 := Aside0.mk (blk_below (g := gb262) (o := .cells #[.string ((rd_T109 l1_1 x22_2).f0), .string ((rd_T109 l1_1 x22_2).f1), .bool true] 109 (0, 0)) (by (with_reducible repeat (first | refine blk_drewN ?_ _ | refine blk_drew ?_ | refine blk_alloc ?_ _)); refine blk_put (cs := #[.string ((rd_T109 l1_1 x22_2).f0), .string ((rd_T109 l1_1 x22_2).f1), .bool false]) ?_ 2 _ rfl; (with_reducible repeat (first | refine blk_drewN ?_ _ | refine blk_drew ?_ | refine blk_alloc ?_ _)); refine blk_put (cs := #[.string ((rd_T109 l1_1 x22_2).f0), .string (⟨#[]⟩ : ByteArray), .bool false]) ?_ 1 _ rfl; (with_reducible repeat (first | refine blk_drewN ?_ _ | refine blk_drew ?_ | refine blk_alloc ?_ _)); refine blk_put (cs := #[.string (⟨#[]⟩ : ByteArray), .string (⟨#[]⟩ : ByteArray), .bool false]) ?_ 0 _ rfl; (with_reducible repeat (first | refine blk_drewN ?_ _ | refine blk_drew ?_ | refine blk_alloc ?_ _)); exact BK262.out) hb); replace HB := Aside0.mk (below_step t17_ hb); (try clear hb); (try clear hb2); (try clear hk); (try clear hi); (try clear ho0)))
                      go_roundg k2
                      case measure => have := HJ2.out; have := HK2.out; omega
                      case rel => exact ⟨(t263), (wrap64 (x22_2 + 1)), t14_, H', ⟨by have := HJ2.out; have := HK2.out; omega⟩, ⟨by (with_reducible repeat (first | apply Kd.R_alloc | apply Kd.R_drewN | apply Kd.R_drew)); exact Kd.R_mono HO265.out (fun _ hk => trivial)⟩, ⟨by (with_reducible repeat (first | refine blk_drewN ?_ _ | refine blk_drew ?_ | refine blk_alloc ?_ _)); exact BK254.out⟩, ⟨t17_⟩⟩
                    · replace c20 := Bool.eq_false_iff.mpr c20
                      subst c20
                      have H1 : ((impl_withKey.f x6_2 ((rd_T109 l1_1 x22_2).f0) ((rd_T109 l1_1 x22_2).f1)).bind fun t266 => (impl_MapDo.l0 k2 t266 l1_1 (l1_1.length : Int) (wrap64 (x22_2 + 1)))) = some (r1, r2) := by rw [if_neg (show ¬ (false = true) by decide)] at H; exact H
                      clear H
                      have H := H1
                      clear H1
                      replace H := Option.bind_eq_some_iff.mp H
                      obtain ⟨t266, A270, H⟩ := H
                      replace H : (impl_MapDo.l0 k2 t266 l1_1 (l1_1.length : Int) (wrap64 (x22_2 + 1))) = some (r1, r2) := H
                      have A27 := Aside0.mk A270
                      clear A270
                      have H' := Aside0.mk H
                      clear H
                      have p261 : 0 ≤ (x22_2 : Int) := of_decide_eq_true t5_
                      have q261 : x22_2 < (l1_1.length : Int) := of_decide_eq_true t5_
                      obtain ⟨ad261, e261, hx261_0, hx261_1, hx261_2⟩ := at_T109 HR1_1.out x22_2 p261 q261
                      (try rw [← Nbq19.out] at hx261_2)
                      (try rw [← Nbq19.out] at hw261_2)
                      cases e261
                      replace hx261_0 := (HB.out.cell (World.block_lt_of_cell? w _ hx261_0)).trans hx261_0
                      replace hx261_1 := (HB.out.cell (World.block_lt_of_cell? w _ hx261_1)).trans hx261_1
                      replace hx261_2 := (HB.out.cell (World.block_lt_of_cell? w _ hx261_2)).trans hx261_2
                      replace p261 := eq_true p261
                      replace q261 := eq_true q261
                      go_wp2_with (first | ((with_reducible refine gate_dst (N := 8) rfl ?_); refine boxE (N := 8) (cs := #[.string (⟨#[]⟩ : ByteArray), .string (⟨#[]⟩ : ByteArray), .bool false]) (t := 109) (h := ?_); intro gb262 hg w28 hbox hb; replace HO_6 := Aside0.mk (Kd.R_below t12_ hb); have BK262 := Aside0.mk (hbox); have GW262 := Aside0.mk ((t23_ : w.heap.size ≤ gb262)); have GE262 := Aside0.mk ((t23_ : w.heap.size ≤ gb262)); replace HB := Aside0.mk (below_step t11_ hb); have NB254_262 := nbL BK254 hg; have NB262_254 := nbG BK254 hg; replace BK254 := bkN BK254 hb; clear hb hbox hg; have hnb29 := NB262_254.out; have hnc29 := NB254_262.out; have hcz30_0 := bc0 BK262; have hcz30_1 := bc1 BK262; have hcz30_2 := bc2 BK262; have hfz30_0 := bf BK262 0; have hfz30_1 := bf BK262 1; have hfz30_2 := bf BK262 2; obtain ⟨Ao31, co31, eo31⟩ := Kd.R_slice HO_6.out; subst eo31) | ((with_reducible refine gate_callee (f := 77) rfl ?_); refine goesL_ (some 37) rfl rfl Try.func77 (by kernel_rfl) rfl #[.slice Ao31 x6_2.length co31, .string ((rd_T109 l1_1 x22_2).f0), .string ((rd_T109 l1_1 x22_2).f1)] rfl t4_ ?_; (with_reducible refine (impl_withKey.calls _ _ x6_2 ((rd_T109 l1_1 x22_2).f0) ((rd_T109 l1_1 x22_2).f1) t266 _ ?side1 ?side2 A27.out).mono ?_); (case side1 => refine (Kd.R_reads' (e := 59) (base := w.heap.size) (ok := fun k_ => True) (n := x6_2.length) (c := co31) ?_).2.2; exact (by (with_reducible repeat (first | apply Kd.R_alloc | apply Kd.R_drewN | apply Kd.R_drew)); exact (Kd.R_mono (Kd.R_far (p := ⟨gb262, 2, none⟩) (Kd.R_far (p := ⟨gb262, 1, none⟩) (Kd.R_far (p := ⟨gb262, 0, none⟩) (Kd.R_types HO_6.out BK262.out (by decide)) (fun _ hk => hk.2) (.string ((rd_T109 l1_1 x22_2).f0))) (fun _ hk => hk.2) (.string ((rd_T109 l1_1 x22_2).f1))) (fun _ hk => hk.2) (.bool false)) (fun _ h_ => h_.1)))); (case side2 => exact (Kd.R_reads' HO_6.out).2.1); rintro e w32 ⟨v267, rfl, ho0, hb⟩; refine ⟨_, rfl, ?_⟩; have HO268 := Aside0.mk (Kd.R_lower (Kd.R_new' ho0 (Kd.R_lt (by (with_reducible repeat (first | apply Kd.R_alloc | apply Kd.R_drewN | apply Kd.R_drew)); exact (Kd.R_mono (Kd.R_far (p := ⟨gb262, 2, none⟩) (Kd.R_far (p := ⟨gb262, 1, none⟩) (Kd.R_far (p := ⟨gb262, 0, none⟩) (Kd.R_types HO_6.out BK262.out (by decide)) (fun _ hk => hk.2) (.string ((rd_T109 l1_1 x22_2).f0))) (fun _ hk => hk.2) (.string ((rd_T109 l1_1 x22_2).f1))) (fun _ hk => hk.2) (.bool false)) (fun _ h_ => h_.1))))) (below_size t17_)); replace HO_6 := Aside0.mk (Kd.R_elder' (by (with_reducible repeat (first | apply Kd.R_alloc | apply Kd.R_drewN | apply Kd.R_drew)); exact (Kd.R_mono (Kd.R_far (p := ⟨gb262, 2, none⟩) (Kd.R_far (p := ⟨gb262, 1, none⟩) (Kd.R_far (p := ⟨gb262, 0, none⟩) (Kd.R_types HO_6.out BK262.out (by decide)) (fun _ hk => hk.2) (.string ((rd_T109 l1_1 x22_2).f0))) (fun _ hk => hk.2) (.string ((rd_T109 l1_1 x22_2).f1))) (fun _ hk => hk.2) (.bool false)) (fun _ h_ => h_.1))) (Kd.R_base ho0) hb); replace BK254 := Aside0.mk (blk_below (g := gb254) (o := .cells #[.int .i64 a1_0, .slice (some ad261) l1_1.length c1_1] 52 (0, 0)) (by (with_reducible repeat (first | refine blk_drewN ?_ _ | refine blk_drew ?_ | refine blk_alloc ?_ _)); refine blk_far ?_ NB254_262.out _; (with_reducible repeat (first | refine blk_drewN ?_ _ | refine blk_drew ?_ | refine blk_alloc ?_ _)); refine blk_far ?_ NB254_262.out _; (with_reducible repeat (first | refine blk_drewN ?_ _ | refine blk_drew ?_ | refine blk_alloc ?_ _)); refine blk_far ?_ NB254_262.out _; (with_reducible repeat (first | refine blk_drewN ?_ _ | refine blk_drew ?_ | refine blk_alloc ?_ _)); exact BK254.out) hb); replace BK262 := Aside0.mk (blk_below (g := gb262) (o := .cells #[.string ((rd_T109 l1_1 x22_2).f0), .string ((rd_T109 l1_1 x22_2).f1), .bool false] 109 (0, 0)) (by (with_reducible repeat (first | refine blk_drewN ?_ _ | refine blk_drew ?_ | refine blk_alloc ?_ _)); refine blk_put (cs := #[.string ((rd_T109 l1_1 x22_2).f0), .string ((rd_T109 l1_1 x22_2).f1), .bool false]) ?_ 2 _ rfl; (with_reducible repeat (first | refine blk_drewN ?_ _ | refine blk_drew ?_ | refine blk_alloc ?_ _)); refine blk_put (cs := #[.string ((rd_T109 l1_1 x22_2).f0), .string (⟨#[]⟩ : ByteArray), .bool false]) ?_ 1 _ rfl; (with_reducible repeat (first | refine blk_drewN ?_ _ | refine blk_drew ?_ | refine blk_alloc ?_ _)); refine blk_put (cs := #[.string (⟨#[]⟩ : ByteArray), .string (⟨#[]⟩ : ByteArray), .bool false]) ?_ 0 _ rfl; (with_reducible repeat (first | refine blk_drewN ?_ _ | refine blk_drew ?_ | refine blk_alloc ?_ _)); exact BK262.out) hb); replace HB := Aside0.mk (below_step t17_ hb); (try clear hb); (try clear hb2); (try clear hk); (try clear hi); (try clear ho0)))
                      go_roundg k2
                      case measure => have := HJ2.out; have := HK2.out; omega
                      case rel => exact ⟨(t266), (wrap64 (x22_2 + 1)), t14_, H', ⟨by have := HJ2.out; have := HK2.out; omega⟩, ⟨by (with_reducible repeat (first | apply Kd.R_alloc | apply Kd.R_drewN | apply Kd.R_drew)); exact Kd.R_mono HO268.out (fun _ hk => trivial)⟩, ⟨by (with_reducible repeat (first | refine blk_drewN ?_ _ | refine blk_drew ?_ | refine blk_alloc ?_ _)); exact BK254.out⟩, ⟨t17_⟩⟩
                  · rw [if_neg c18] at H
                    exact absurd H (by simp)
                · rw [if_neg c17] at H
                  exact absurd H (by simp)
              · rw [if_neg c16] at H
                have c16b0 : decide (x22_2 < (l1_1.length : Int)) = false := decide_eq_false c16
                clear c16
                replace H := Option.bind_eq_some_iff.mp H
                obtain ⟨t260, A330, H⟩ := H
                replace H : (if t260 = true then (some (x6_2, true)) else (some (([] : List (S59)), false))) = some (r1, r2) := H
                have A33 := Aside0.mk A330
                clear A330
                by_cases c34 : t260 = true
                · subst c34
                  have H1 : (some (x6_2, true)) = some (r1, r2) := by rw [if_pos rfl] at H; exact H
                  clear H
                  have H := H1
                  clear H1
                  simp only [Option.some.injEq, Prod.mk.injEq] at H
                  obtain ⟨rfl, rfl⟩ := H
                  obtain ⟨Ao35, co35, eo35⟩ := Kd.R_slice HO_6.out
                  subst eo35
                  go_wp2_with (first | ((with_reducible refine gate_callee (f := 70) rfl ?_); refine goesL_ (some 40) rfl rfl Try.func70 (by kernel_rfl) rfl #[.slice Ao35 x6_2.length co35] rfl t4_ ?_; (with_reducible refine (impl_MapOk.calls k2 _ _ x6_2 true _ ?side1 ?side2 A33.out).mono ?_); (case side1 => repeat (first | exact (Kd.R_reads' HO_6.out).2.2 | (with_reducible refine Kd.C_alloc ?_ _) | (with_reducible refine Kd.C_drewN ?_ _) | (with_reducible refine Kd.C_drew ?_))); (case side2 => exact (Kd.R_reads' HO_6.out).2.1); rintro e w36 ⟨rfl, hb⟩; refine ⟨_, rfl, ?_⟩; replace HO_6 := Aside0.mk (Kd.R_below t12_ hb); replace BK254 := bkN BK254 hb; replace HB := Aside0.mk (below_step t11_ hb); (try clear hb); (try clear hb2); (try clear hk); (try clear hi)))
                  go_ret2
                  exact ⟨_, by first | rfl | (simp [errW_none, errW_some] <;> rfl) | (simp [*, errW_none, errW_some] <;> rfl), by (with_reducible repeat (first | apply Kd.R_alloc | apply Kd.R_drewN | apply Kd.R_drew)); exact HO_6.out, t11_⟩
                · replace c34 := Bool.eq_false_iff.mpr c34
                  subst c34
                  have H1 : (some (([] : List (S59)), false)) = some (r1, r2) := by rw [if_neg (show ¬ (false = true) by decide)] at H; exact H
                  clear H
                  have H := H1
                  clear H1
                  simp only [Option.some.injEq, Prod.mk.injEq] at H
                  obtain ⟨rfl, rfl⟩ := H
                  obtain ⟨Ao37, co37, eo37⟩ := Kd.R_slice HO_6.out
                  subst eo37
                  go_wp2_with (first | ((with_reducible refine gate_callee (f := 70) rfl ?_); refine goesL_ (some 40) rfl rfl Try.func70 (by kernel_rfl) rfl #[.slice Ao37 x6_2.length co37] rfl t4_ ?_; (with_reducible refine (impl_MapOk.calls k2 _ _ x6_2 false _ ?side1 ?side2 A33.out).mono ?_); (case side1 => repeat (first | exact (Kd.R_reads' HO_6.out).2.2 | (with_reducible refine Kd.C_alloc ?_ _) | (with_reducible refine Kd.C_drewN ?_ _) | (with_reducible refine Kd.C_drew ?_))); (case side2 => exact (Kd.R_reads' HO_6.out).2.1); rintro e w38 ⟨rfl, hb⟩; refine ⟨_, rfl, ?_⟩; replace HO_6 := Aside0.mk (Kd.R_below t12_ hb); replace BK254 := bkN BK254 hb; replace HB := Aside0.mk (below_step t11_ hb); (try clear hb); (try clear hb2); (try clear hk); (try clear hi)))
                  go_ret2
                  exact ⟨_, by first | rfl | (simp [errW_none, errW_some] <;> rfl) | (simp [*, errW_none, errW_some] <;> rfl), by first | exact Kd.R_nil _ _ _ _ _ | exact Kd.N_nil _ _ _ _ _ | exact Kd.V_nil _ _ _ _ _ | exact Kd.Q_nil _ _ _ _ _ | exact Kd.S_nil _ _ _ _ _, t11_⟩
        · rw [if_neg c13] at H
          exact absurd H (by simp)

end Go.Proofs.Ytpjhbhjmaggheaa.QFnMaps
