-- By a program of this session, over the kit's print.
import Derived.Test.YtpjhbhjmaggheaaQFnMapsx0
import Derived.Test.YtpjhbhjmaggheaaQFnMapsx3
namespace Go.Proofs.Ytpjhbhjmaggheaa.QFnMaps
open Go.RowKit Go.Proofs.YtpjhbhjmaggheaaW.PrintWords Go.Proofs.YtpjhbhjmaggheaaW.PrintLast Go.Proofs.YtpjhbhjmaggheaaW.PrintMore
attribute [local go_sem] max2_int min2_int max_two min_two max_three min_three max_four min_four   -- for this text's walks alone
set_option linter.unusedVariables false
set_option linter.unusedSimpArgs false

/-! ### impl_pairNo: function 71 -/
/-- The compared field against the name. -/
def impl_pairNo.cmp (l : List S59) (a1 : ByteArray) (i : Nat) : Int := Lib.compareBytes (rd_T59 l (i : Int)).f0.data.toList a1.data.toList
def impl_pairNo.mono0 (l : List S59) (a1 : ByteArray) : Bool :=
  decide (l.length ≤ 1048576) && (List.range l.length).all fun b => (List.range (b + 1)).all fun a => !decide (impl_pairNo.cmp l a1 b < 0) || decide (impl_pairNo.cmp l a1 a < 0)
def impl_pairNo.cnt (l : List S59) (a1 : ByteArray) : Nat := (List.range l.length).countP fun i => decide (impl_pairNo.cmp l a1 i < 0)
def impl_pairNo.f (l0_0 : List S59) (a1 : ByteArray) : Option (Int × Bool) :=
  if impl_pairNo.mono0 l0_0 a1 = true then some ((impl_pairNo.cnt l0_0 a1 : Int), decide (impl_pairNo.cnt l0_0 a1 < l0_0.length) && decide (impl_pairNo.cmp l0_0 a1 (impl_pairNo.cnt l0_0 a1) = 0)) else none
theorem impl_pairNo.mono1 {l : List S59} {a1 : ByteArray} (h : impl_pairNo.mono0 l a1 = true) : l.length ≤ 1048576 ∧ ∀ a b, a ≤ b → b < l.length → impl_pairNo.cmp l a1 b < 0 → impl_pairNo.cmp l a1 a < 0 := by
  unfold impl_pairNo.mono0 at h
  simp only [Bool.and_eq_true, decide_eq_true_eq, List.all_eq_true, List.mem_range, Bool.or_eq_true, Bool.not_eq_true', decide_eq_false_iff_not] at h
  exact ⟨h.1, fun a b hab hb hc => (h.2 b hb a (by omega)).resolve_left (fun h => h hc)⟩
theorem impl_pairNo.cnt_eq {l : List S59} {a1 : ByteArray} (i : Nat) (hi : i ≤ l.length) (h1 : ∀ t, t < i → impl_pairNo.cmp l a1 t < 0) (h2 : ∀ t, i ≤ t → t < l.length → 0 ≤ impl_pairNo.cmp l a1 t) : impl_pairNo.cnt l a1 = i := by
  unfold impl_pairNo.cnt
  have e : List.range l.length = List.range i ++ List.range' i (l.length - i) := by
    rw [List.range_eq_range', List.range_eq_range', show l.length = i + (l.length - i) by omega, ← List.range'_append_1, Nat.zero_add, show i + (l.length - i) - i = l.length - i by omega]
  rw [e, List.countP_append, List.countP_eq_length.2 (fun t ht => decide_eq_true (h1 t (List.mem_range.1 ht))), List.countP_eq_zero.2 (fun t ht => ?_), List.length_range]
  · rfl
  · rw [List.mem_range'_1] at ht
    have := h2 t (by omega) (by omega)
    simp only [decide_eq_true_eq]
    omega
/-- A call of a function value that captures nothing. -/
theorem impl_pairNo.goes {P : Program} {ops : Array Oper} {Q : Exit → Act → World → Prop} {rest : List Oper} {oi : Oper} {a : Act} {w : World} (N : Option Tmp) (hd : oi.dst = N) (hg : oi.guard = none) {f : FuncId} {fn : Func} {o : Operand} {xs : Array Operand} {ts : Array TypeId} (hf : P.funcs[f]? = some fn) (hname : (fn.name == "runtime.NumGoroutine") = false) (hb : fn.body.isSome = true) (args : Array Value)
    (hop : oi.op = .call { callee := .value o, args := xs, argTypes := ts }) (ho : a.eval o = .func (.func f) #[] #[]) (hargs : xs.map a.eval = args)
    (h : Calls P f args w fun e w' => ∃ v, e = .returned v ∧ wpList P ops Q rest (a.put N v) w') : wpList P ops Q (oi :: rest) a w := by
  refine wpList_plain hg fun K hK => ?_
  have he := enters_ hf hname hb args w
  have hrun : (execOp a.eval oi).run P w = .ok (.enter f args) w := by
    unfold execOp
    simp [hop, resolve, ho, Deferred.ofValue, invoke, hargs, he]
  unfold Oper.wp
  rw [hrun, Oper.upon_enter]
  refine h.mono fun e w'' hh => ?_
  obtain ⟨v, rfl, hk⟩ := hh
  subst hd
  exact hK _ _ hk
set_option maxHeartbeats 8000000 in
set_option maxRecDepth 100000 in
theorem impl_pairNo.search (A0 : Option Addr) (c0 : Nat) (l0 : List S59) (a1 : ByteArray) (w : World) (hr0 : Kd.C k59 w A0 l0.length l0) (hc0 : l0.length ≤ c0) (hm : impl_pairNo.mono0 l0 a1 = true) :
    Calls Try.prog 106 #[.slice A0 l0.length c0, .string a1, .func (.func 107) #[] #[]] w fun e w' => e = .returned (.tuple #[.int .i64 (impl_pairNo.cnt l0 a1 : Int), .bool (decide (impl_pairNo.cnt l0 a1 < l0.length) && decide (impl_pairNo.cmp l0 a1 (impl_pairNo.cnt l0 a1) = 0))]) ∧ Below w.heap.size w w' := by
  have hu59 := Try.underlying59
  have e107 : ∀ args w, (callFunc 107 args).run Try.prog w = .ok (.enter 107 args) w := enters_ Try.func107 (by kernel_rfl) rfl
  obtain ⟨hsz, hmono⟩ := impl_pairNo.mono1 hm
  have M : Aside (∀ a b, a ≤ b → b < l0.length → impl_pairNo.cmp l0 a1 b < 0 → impl_pairNo.cmp l0 a1 a < 0) := hmono
  clear hmono hm
  have HR0 := Aside0.mk hr0
  have HC0 := Aside0.mk hc0
  clear hr0 hc0
  have HB := Aside0.mk (Below.refl w.heap.size w)
  generalize hcnt : impl_pairNo.cnt l0 a1 = cnt
  have CN : Aside (impl_pairNo.cnt l0 a1 = cnt) := hcnt
  clear hcnt
  generalize hfin : (decide (cnt < l0.length) && decide (impl_pairNo.cmp l0 a1 cnt = 0)) = fin
  have FIN : Aside ((decide (cnt < l0.length) && decide (impl_pairNo.cmp l0 a1 cnt = 0)) = fin) := hfin
  clear hfin
  generalize hn : l0.length = n at HC0 hsz
  have N : Aside (l0.length = n) := hn
  clear hn
  go_enter Try.func106, Try.ntmps106
  go_wp2
  go_loopg [9, 10] n (fun kx s9 s10 wr => ∃ lo hi : Nat, s9 = .int .i64 lo ∧ s10 = .int .i64 hi ∧ lo ≤ hi ∧ hi ≤ n ∧ hi - lo ≤ kx ∧ Aside0 (Below w.heap.size w wr) ∧
    Aside ((∀ t, t < lo → impl_pairNo.cmp l0 a1 t < 0) ∧ (∀ t, hi ≤ t → t < n → 0 ≤ impl_pairNo.cmp l0 a1 t)))
  case atStart => exact ⟨0, n, rfl, rfl, Nat.zero_le _, Nat.le_refl _, by omega, ⟨t0_⟩, ⟨fun t ht => absurd ht (Nat.not_lt_zero _), fun t h1 h2 => by omega⟩⟩
  case round =>
    clear HB
    obtain ⟨lo, hi, rfl, rfl, hlh, hin, hg, HB, I⟩ := hrel
    by_cases hlt : lo < hi
    · obtain ⟨ad, e, hx0, hx1⟩ := at_T59 HR0.out ((((lo + hi) / 2 : Nat)) : Int) (by omega) (by have := N.out; omega)
      subst e
      rw [Int.toNat_natCast] at hx0 hx1
      generalize hy : rd_T59 l0 (((lo + hi) / 2 : Nat) : Int) = y at hx0 hx1
      have Y : Aside (rd_T59 l0 (((lo + hi) / 2 : Nat) : Int) = y) := hy
      clear hy
      replace hx0 := (HB.out.cell (World.block_lt_of_cell? w _ hx0)).trans hx0
      replace hx1 := (HB.out.cell (World.block_lt_of_cell? w _ hx1)).trans hx1
      have p1 : (0 ≤ ((lo : Int) + (hi : Int)) / 2) = True := eq_true (by omega)
      have p2 : (((lo : Int) + (hi : Int)) / 2 < (n : Int)) = True := eq_true (by omega)
      have p3 : (((lo : Int) + (hi : Int)) / 2).toNat = (lo + hi) / 2 := by omega
      have hc := impl_pairNo_1.calls y.f0 y.f1 a1 _ wr rfl
      by_cases hyx : Lib.compareBytes y.f0.data.toList a1.data.toList < 0
      · have hyb : decide (Lib.compareBytes y.f0.data.toList a1.data.toList < 0) = true := decide_eq_true hyx
        go_wp2_with ((with_reducible refine gate_dst (N := 30) rfl ?_); (try (refine gate_guard (by rfl) ?_; dsimp only)); refine impl_pairNo.goes (some 30) rfl rfl Try.func107 (by kernel_rfl) rfl #[.agg #[.string y.f0, .string y.f1], .string a1] rfl rfl t35_ ?_; refine (impl_pairNo_1.calls y.f0 y.f1 a1 _ _ rfl).mono ?_; rintro e w' ⟨rfl, hb⟩; refine ⟨_, rfl, ?_⟩; have n0_ := Aside0.mk (below_step t0_ hb); clear HB; have HB := n0_; clear n0_ hb)
        go_roundg (hi - ((lo + hi) / 2 + 1))
        case measure => omega
        case rel =>
          refine ⟨(lo + hi) / 2 + 1, hi, by rw [show ((lo : Int) + (hi : Int)) / 2 + 1 = (((lo + hi) / 2 + 1 : Nat) : Int) by omega], rfl, by omega, hin, Nat.le_refl _, ⟨t0_⟩, ⟨fun t ht => M.out t ((lo + hi) / 2) (by omega) (by have := N.out; omega) ?_, I.out.2⟩⟩
          unfold impl_pairNo.cmp
          rw [Y.out]
          exact hyx
      · have hyb : decide (Lib.compareBytes y.f0.data.toList a1.data.toList < 0) = false := decide_eq_false hyx
        have I2 : Aside ((∀ t, t < lo → impl_pairNo.cmp l0 a1 t < 0) ∧ (∀ t, (lo + hi) / 2 ≤ t → t < n → 0 ≤ impl_pairNo.cmp l0 a1 t)) := ⟨I.out.1, fun t ht htn => Int.not_lt.1 fun h => hyx (by
          have := M.out ((lo + hi) / 2) t ht (by have := N.out; omega) h
          unfold impl_pairNo.cmp at this
          rw [Y.out] at this
          exact this)⟩
        go_wp2_with ((with_reducible refine gate_dst (N := 30) rfl ?_); (try (refine gate_guard (by rfl) ?_; dsimp only)); refine impl_pairNo.goes (some 30) rfl rfl Try.func107 (by kernel_rfl) rfl #[.agg #[.string y.f0, .string y.f1], .string a1] rfl rfl t35_ ?_; refine (impl_pairNo_1.calls y.f0 y.f1 a1 _ _ rfl).mono ?_; rintro e w' ⟨rfl, hb⟩; refine ⟨_, rfl, ?_⟩; have n0_ := Aside0.mk (below_step t0_ hb); clear HB; have HB := n0_; clear n0_ hb)
        go_roundg ((lo + hi) / 2 - lo)
        case measure => omega
        case rel =>
          exact ⟨lo, (lo + hi) / 2, rfl, by rw [show ((lo : Int) + (hi : Int)) / 2 = (((lo + hi) / 2 : Nat) : Int) by omega], by omega, by omega, Nat.le_refl _, ⟨t0_⟩, I2⟩
    · obtain rfl : hi = lo := by omega
      have ecnt : cnt = hi := by
        rw [← CN.out]
        exact impl_pairNo.cnt_eq hi (by have := N.out; omega) I.out.1 (fun t h1 h2 => I.out.2 t h1 (by have := N.out; omega))
      subst ecnt
      by_cases hn : cnt < n
      · obtain ⟨ad, e, hx0, hx1⟩ := at_T59 HR0.out (cnt : Int) (by omega) (by have := N.out; omega)
        subst e
        rw [Int.toNat_natCast] at hx0 hx1
        generalize hy : rd_T59 l0 (cnt : Int) = y at hx0 hx1
        have Y : Aside (rd_T59 l0 (cnt : Int) = y) := hy
        clear hy
        replace hx0 := (HB.out.cell (World.block_lt_of_cell? w _ hx0)).trans hx0
        replace hx1 := (HB.out.cell (World.block_lt_of_cell? w _ hx1)).trans hx1
        have p1 : (0 ≤ (cnt : Int)) = True := eq_true (by omega)
        have p2 : ((cnt : Int) < (n : Int)) = True := eq_true (by omega)
        by_cases hyx : Lib.compareBytes y.f0.data.toList a1.data.toList = 0
        · go_wp2_with ((with_reducible refine gate_dst (N := 46) rfl ?_); (try (refine gate_guard (by rfl) ?_; dsimp only)); refine impl_pairNo.goes (some 46) rfl rfl Try.func107 (by kernel_rfl) rfl #[.agg #[.string y.f0, .string y.f1], .string a1] rfl rfl t35_ ?_; refine (impl_pairNo_1.calls y.f0 y.f1 a1 _ _ rfl).mono ?_; rintro e w' ⟨rfl, hb⟩; refine ⟨_, rfl, ?_⟩; have n0_ := Aside0.mk (below_step t0_ hb); clear HB; have HB := n0_; clear n0_ hb)
          go_ret2
          refine ⟨?_, t0_⟩
          rw [← FIN.out, ← N.out]
          unfold impl_pairNo.cmp
          rw [Y.out]
          simp [N.out, hn, hyx]
        · go_wp2_with ((with_reducible refine gate_dst (N := 46) rfl ?_); (try (refine gate_guard (by rfl) ?_; dsimp only)); refine impl_pairNo.goes (some 46) rfl rfl Try.func107 (by kernel_rfl) rfl #[.agg #[.string y.f0, .string y.f1], .string a1] rfl rfl t35_ ?_; refine (impl_pairNo_1.calls y.f0 y.f1 a1 _ _ rfl).mono ?_; rintro e w' ⟨rfl, hb⟩; refine ⟨_, rfl, ?_⟩; have n0_ := Aside0.mk (below_step t0_ hb); clear HB; have HB := n0_; clear n0_ hb)
          go_ret2
          refine ⟨?_, t0_⟩
          rw [← FIN.out, ← N.out]
          unfold impl_pairNo.cmp
          rw [Y.out]
          simp [N.out, hn, hyx]
      · go_wp2
        go_ret2
        refine ⟨?_, t0_⟩
        rw [← FIN.out, ← N.out]
        simp [N.out, hn]
set_option maxHeartbeats 8000000 in
set_option maxRecDepth 100000 in
theorem impl_pairNo.calls (A0 : Option Addr) (c0 : Nat) (l0 : List (S59)) (a1 : ByteArray) (r1 : Int) (r2 : Bool) (w : World) (hr0 : Kd.C k59 w A0 l0.length l0) (hc0 : l0.length ≤ c0) (h : impl_pairNo.f l0 a1 = some (r1, r2)) :
    Calls Try.prog 71 #[.slice A0 l0.length c0, .string a1] w fun e w' => e = .returned (.tuple #[.int .i64 r1, .bool r2]) ∧ Below w.heap.size w w' := by
  unfold impl_pairNo.f at h
  by_cases hm : impl_pairNo.mono0 l0 a1 = true
  · rw [if_pos hm] at h
    simp only [Option.some.injEq, Prod.mk.injEq] at h
    obtain ⟨rfl, rfl⟩ := h
    have HB := Aside0.mk (Below.refl w.heap.size w)
    have HR := Aside0.mk hr0
    have HC := Aside0.mk hc0
    clear hr0 hc0
    go_enter Try.func71, Try.ntmps71
    go_wp2_with (first | ((with_reducible refine gate_callee (f := 106) rfl ?_); refine goesL_ (some 8) rfl rfl Try.func106 (by kernel_rfl) rfl #[.slice A0 l0.length c0, .string a1, .func (.func 107) #[] #[]] rfl t4_ ?_; (with_reducible refine (impl_pairNo.search _ _ l0 a1 _ ?side1 ?side2 hm).mono ?_); (case side1 => exact (Kd.C_below HR.out HB.out)); (case side2 => exact HC.out); rintro e w13 ⟨rfl, hb⟩; refine ⟨_, rfl, ?_⟩; have n1_ := Aside0.mk (below_step t0_ hb); clear HB; have HB := n1_; clear n1_ hb))
    go_ret2
    exact ⟨by first | rfl | (simp; done) | (simp [*]; done), t0_⟩
  · rw [if_neg hm] at h
    exact absurd h (by simp)

/-! ### impl_Change: function 72 -/
/-- The cells of a row. -/
def sl_Change.flat (xs : List S109) : List Value := xs.flatMap fun x => [.string x.f0, .string x.f1, .bool x.f2]
theorem sl_Change.flat_len (xs : List S109) : (sl_Change.flat xs).length = xs.length * 3 := by
  induction xs with
  | nil => rfl
  | cons x xs ih =>
    show ([Value.string x.f0, Value.string x.f1, Value.bool x.f2] ++ sl_Change.flat xs).length = _
    rw [List.length_append, ih, List.length_cons]
    simp only [List.length_cons, List.length_nil]
    omega
theorem sl_Change.flat_append (xs ys : List S109) : sl_Change.flat (xs ++ ys) = sl_Change.flat xs ++ sl_Change.flat ys := List.flatMap_append
theorem sl_Change.flat_take (xs : List S109) (n : Nat) : (sl_Change.flat xs).take (n * 3) = sl_Change.flat (xs.take n) := by
  by_cases h : n ≤ xs.length
  · have e := sl_Change.flat_append (xs.take n) (xs.drop n)
    rw [List.take_append_drop] at e
    rw [e]
    exact List.take_left' (by rw [sl_Change.flat_len, List.length_take]; omega)
  · rw [List.take_of_length_le (by rw [sl_Change.flat_len]; omega), List.take_of_length_le (by omega)]
theorem sl_Change.flat_drop (xs : List S109) (n : Nat) : (sl_Change.flat xs).drop (n * 3) = sl_Change.flat (xs.drop n) := by
  by_cases h : n ≤ xs.length
  · have e := sl_Change.flat_append (xs.take n) (xs.drop n)
    rw [List.take_append_drop] at e
    rw [e]
    exact List.drop_left' (by rw [sl_Change.flat_len, List.length_take]; omega)
  · rw [List.drop_eq_nil_of_le (by rw [sl_Change.flat_len]; omega), List.drop_eq_nil_of_le (by omega)]
    rfl
theorem sl_Change.flat_one (xs : List S109) : ∀ v ∈ sl_Change.flat xs, v.oneCell' = true := by
  intro v hv
  obtain ⟨x, _, hx⟩ := List.mem_flatMap.1 hv
  simp only [List.mem_cons, List.not_mem_nil, or_false] at hx
  rcases hx with rfl | rfl | rfl <;> rfl
theorem sl_Change.flat_of {R : S109 → List Value → Prop} (hR : ∀ x cs, R x cs → cs = [.string x.f0, .string x.f1, .bool x.f2]) : ∀ (xs : List S109) (cs : List Value), Reps R 3 xs cs → cs = sl_Change.flat xs
  | [], cs, h => List.eq_nil_of_length_eq_zero (by have := h.1; simpa using this)
  | x :: xs, cs, h => by
    have h0 := hR _ _ (h.2 0 x rfl)
    rw [Nat.zero_mul, List.drop_zero] at h0
    have h1 : Reps R 3 xs (cs.drop 3) := ⟨by rw [List.length_drop, h.1, List.length_cons]; omega, fun j p hj => by
      have := h.2 (j + 1) p (by simpa using hj)
      rwa [List.drop_drop, show 3 + j * 3 = (j + 1) * 3 by omega]⟩
    rw [← List.take_append_drop 3 cs, h0, sl_Change.flat_of hR xs _ h1]
    rfl
theorem sl_Change.reps_of {R : S109 → List Value → Prop} (hR : ∀ x, R x [.string x.f0, .string x.f1, .bool x.f2]) (xs : List S109) : Reps R 3 xs (sl_Change.flat xs) := by
  refine ⟨sl_Change.flat_len xs, fun j p hj => ?_⟩
  obtain ⟨hlt, rfl⟩ := List.getElem?_eq_some_iff.1 hj
  rw [sl_Change.flat_drop, List.drop_eq_getElem_cons hlt]
  exact hR _
theorem sl_Change.open_ {w : World} {base g n cap : Nat} {ok : Nat → Prop} {xs : List S109} (h : Kd.R k109 109 w base ok (.slice (some ⟨g, 0, none⟩) n cap) xs) :
    ok g ∧ base ≤ g ∧ n = xs.length ∧ n ≤ cap ∧ cap ≤ maxLen ∧ ∃ cur, w.heap[g]? = some (.cells cur 109 (0, 0)) ∧ cur.size = cap * 3 ∧ cur.toList.take (n * 3) = sl_Change.flat xs := by
  obtain ⟨hok, inner, ⟨hl, ho⟩, hr⟩ := h
  rcases ho with ⟨hv, _⟩ | ⟨g', cap', cur, hv, hb, hh, hnc, hcm, hcs, htake⟩
  · cases hv
  · injection hv with ha hn hc
    injection ha with ha
    injection ha with hg
    subst hg; subst hc; subst hn
    exact ⟨hok g rfl, hb, rfl, hnc, hcm, cur, hh, hcs, by
      rw [show (3 : Nat) = k109.sz from rfl, htake]
      exact sl_Change.flat_of (fun x cs hx => k109_openM hx) xs inner hr⟩
theorem sl_Change.close_ {w : World} {base g n cap : Nat} {ok : Nat → Prop} {xs : List S109} (h0 : ok g) (h1 : base ≤ g) (h2 : n = xs.length) (h3 : n ≤ cap) (h4 : cap ≤ maxLen) {cur : Array Value} (h5 : w.heap[g]? = some (.cells cur 109 (0, 0))) (h6 : cur.size = cap * 3) (h7 : cur.toList.take (n * 3) = sl_Change.flat xs) :
    Kd.R k109 109 w base ok (.slice (some ⟨g, 0, none⟩) n cap) xs := by
  subst h2
  refine ⟨fun k hk => ?_, sl_Change.flat xs, ⟨sl_Change.flat_len xs, .inr ⟨g, cap, cur, rfl, h1, h5, h3, h4, h6, h7⟩⟩, sl_Change.reps_of (fun x => k109_mkM _ _ _ x) xs⟩
  simp [Value.ownBlock] at hk
  exact hk ▸ h0
def impl_Change.ren : Go.Shelf.Ren := ⟨fun | 6 => 72 | 15 => 109 | 14 => 108 | 28 => 131 | 29 => 132 | 20 => 123 | 21 => 124 | 22 => 125 | 23 => 126 | 24 => 127 | 25 => 128 | 26 => 129 | 27 => 130 | 46 => 138 | 47 => 139 | 48 => 140 | 49 => 141 | 50 => 142 | 57 => 145 | n => n, fun | 22 => 46 | 24 => 109 | 25 => 112 | 3 => 3 | 39 => 146 | 0 => 0 | 53 => 168 | 55 => 170 | 4 => 4 | 46 => 162 | 45 => 161 | 50 => 106 | 5 => 5 | 9 => 9 | 66 => 173 | 70 => 177 | 76 => 179 | 77 => 180 | n => n, fun | n => n⟩
theorem impl_Change.lays : Go.Proofs.SlLaysF0.n6 Try.prog impl_Change.ren := {
  mixed := by kernel_rfl
  f6 := ⟨Try.f72.name, by decide, Try.func72.trans (congrArg some (by kernel_rfl))⟩
  f14 := ⟨Try.f108.name, by decide, Try.func108.trans (congrArg some (by kernel_rfl))⟩
  f15 := Try.func109.trans (congrArg some (by kernel_rfl))
  f20 := ⟨Try.f123.name, by decide, Try.func123.trans (congrArg some (by kernel_rfl))⟩
  f21 := ⟨Try.f124.name, by decide, Try.func124.trans (congrArg some (by kernel_rfl))⟩
  f22 := ⟨Try.f125.name, by decide, Try.func125.trans (congrArg some (by kernel_rfl))⟩
  f23 := ⟨Try.f126.name, by decide, Try.func126.trans (congrArg some (by kernel_rfl))⟩
  f24 := ⟨Try.f127.name, by decide, Try.func127.trans (congrArg some (by kernel_rfl))⟩
  f25 := ⟨Try.f128.name, by decide, Try.func128.trans (congrArg some (by kernel_rfl))⟩
  f26 := ⟨Try.f129.name, by decide, Try.func129.trans (congrArg some (by kernel_rfl))⟩
  f27 := ⟨Try.f130.name, by decide, Try.func130.trans (congrArg some (by kernel_rfl))⟩
  f28 := Try.func131.trans (congrArg some (by kernel_rfl))
  f29 := Try.func132.trans (congrArg some (by kernel_rfl))
  f46 := ⟨Try.f138.name, by decide, Try.func138.trans (congrArg some (by kernel_rfl))⟩
  f47 := Try.func139.trans (congrArg some (by kernel_rfl))
  f48 := Try.func140.trans (congrArg some (by kernel_rfl))
  f49 := ⟨Try.f141.name, by decide, Try.func141.trans (congrArg some (by kernel_rfl))⟩
  f50 := ⟨Try.f142.name, by decide, Try.func142.trans (congrArg some (by kernel_rfl))⟩
  f57 := ⟨Try.f145.name, by decide, Try.func145.trans (congrArg some (by kernel_rfl))⟩
  t0 := Try.underlying0
  a0 := Try.isAgg0
  z0 := Try.sizeOf0
  v0 := Try.zeroValue0
  t3 := Try.underlying3
  a3 := Try.isAgg3
  z3 := Try.sizeOf3
  v3 := Try.zeroValue3
  t4 := Try.underlying4
  a4 := Try.isAgg4
  z4 := Try.sizeOf4
  v4 := Try.zeroValue4
  t5 := Try.underlying5
  a5 := Try.isAgg5
  z5 := Try.sizeOf5
  v5 := Try.zeroValue5
  t9 := Try.underlying9
  a9 := Try.isAgg9
  z9 := Try.sizeOf9
  v9 := Try.zeroValue9
  t22 := Try.underlying46
  a22 := Try.isAgg46
  z22 := Try.sizeOf46
  v22 := Try.zeroValue46
  t25 := Try.underlying112
  a25 := Try.isAgg112
  z25 := Try.sizeOf112
  v25 := Try.zeroValue112
  t39 := Try.underlying146
  a39 := Try.isAgg146
  z39 := Try.sizeOf146
  v39 := Try.zeroValue146
  t45 := Try.underlying161
  a45 := Try.isAgg161
  z45 := Try.sizeOf161
  v45 := Try.zeroValue161
  t46 := Try.underlying162
  a46 := Try.isAgg162
  z46 := Try.sizeOf162
  v46 := Try.zeroValue162
  t50 := Try.underlying106
  a50 := Try.isAgg106
  z50 := Try.sizeOf106
  v50 := Try.zeroValue106
  t53 := Try.underlying168
  a53 := Try.isAgg168
  z53 := Try.sizeOf168
  v53 := Try.zeroValue168
  t55 := Try.underlying170
  a55 := Try.isAgg170
  z55 := Try.sizeOf170
  v55 := Try.zeroValue170
  t66 := Try.underlying173
  a66 := Try.isAgg173
  z66 := Try.sizeOf173
  v66 := Try.zeroValue173
  t70 := Try.underlying177
  a70 := Try.isAgg177
  z70 := Try.sizeOf177
  v70 := Try.zeroValue177
  t76 := Try.underlying179
  a76 := Try.isAgg179
  z76 := Try.sizeOf179
  v76 := Try.zeroValue179
  t77 := Try.underlying180
  a77 := Try.isAgg180
  z77 := Try.sizeOf180
  v77 := Try.zeroValue180 }
instance impl_Change.inh : Inhabited S109 := ⟨z109⟩
/-- The order of changes by their key, as it is asked for. -/
def impl_Change.cf (x y : S109) : Int := Lib.compareBytes x.f0.data.toList y.f0.data.toList
def impl_Change.enc (x : S109) : List Value := [.string x.f0, .string x.f1, .bool x.f2]
def impl_Change.uniq (l : List S109) : Bool := decide (l.length ≤ 1048576) && (l.all fun x => l.all fun y => decide (x.f0 ≠ y.f0) || (decide (x.f1 = y.f1) && decide (x.f2 = y.f2)))
def impl_Change.f (l0 : List S109) (a1 : Unit) : Option (List S109) := if impl_Change.uniq l0 = true then some (l0.mergeSort fun x y => !decide (impl_Change.cf y x < 0)) else none
theorem impl_Change.cmp_lt : ∀ a b : List UInt8, Lib.compareBytes a b < 0 ↔ a < b
  | [], [] => by simp [Lib.compareBytes]
  | [], _ :: _ => by simp [Lib.compareBytes]
  | _ :: _, [] => by simp [Lib.compareBytes]
  | a :: xs, b :: ys => by
    rw [List.cons_lt_cons_iff, ← impl_Change.cmp_lt xs ys, Lib.compareBytes]
    by_cases h : a < b
    · simp [h]
    · by_cases h2 : b < a
      · have : a ≠ b := by rintro rfl; exact h h2
        simp [h, h2, this]
      · have : a = b := UInt8.le_antisymm (UInt8.not_lt.1 h2) (UInt8.not_lt.1 h)
        simp [this]
theorem impl_Change.lt_eq (x y : S109) : ltOf impl_Change.cf x y = decide (x.f0.data.toList < y.f0.data.toList) := by
  unfold ltOf impl_Change.cf
  rw [decide_eq_decide]
  exact impl_Change.cmp_lt _ _
theorem impl_Change.swo : Go.Sort.SWO (ltOf impl_Change.cf) where
  irrefl x := by rw [impl_Change.lt_eq]; exact decide_eq_false (List.lt_irrefl _)
  trans x y z h1 h2 := by
    rw [impl_Change.lt_eq, decide_eq_true_eq] at *
    exact List.lt_trans h1 h2
  ntrans x y z h1 h2 := by
    rw [impl_Change.lt_eq, decide_eq_false_iff_not] at *
    exact List.not_lt.2 (List.le_trans (List.not_lt.1 h2) (List.not_lt.1 h1))
set_option maxHeartbeats 1000000 in
/-- The literal that compares: two blocks are laid. -/
theorem impl_Change.closure (x y : S109) (W : World) : Calls Try.prog 73 (#[.agg (impl_Change.enc x).toArray, .agg (impl_Change.enc y).toArray] ++ #[]) W fun e w' => e = .returned (.int .i64 (impl_Change.cf x y)) ∧ ∃ q os', w' = Go.Sort.grow (W.drewN q) os' := by
  show Calls Try.prog 73 #[.agg #[.string x.f0, .string x.f1, .bool x.f2], .agg #[.string y.f0, .string y.f1, .bool y.f2]] W _
  have hu109 := Try.underlying109
  have hcon : ∀ W', Calls Try.prog 74 #[.string x.f0, .string y.f0] W' fun e w' => e = .returned (.int .i64 (impl_Change.cf x y)) ∧ Drawn0 W' w' := fun W' => strings_Compare.calls x.f0 y.f0 _ W' rfl
  generalize impl_Change.cf x y = r at hcon ⊢
  go_enter Try.func73, Try.ntmps73
  go_wp2_with (go_at_call 74; refine (hcon _).mono ?_; rintro e w' ⟨rfl, ⟨n, rfl⟩⟩)
  go_ret
  exact ⟨rfl, _, #[_, _], by rw [Go.Sort.alloc_eq_grow, Go.Sort.alloc_eq_grow, Go.Sort.grow_grow]; rfl⟩
theorem impl_Change.flatK_get (d : Array S109) (t : Nat) (h : t < d.size * 3) : (sl_Change.flat d.toList)[t]? = some (Go.Sort.flatK impl_Change.enc 3 d)[t]! := by
  rw [Go.Sort.get_flatK _ _ _ _ h]
  have hq : t / 3 < d.size := by omega
  have hq' : t / 3 < d.toList.length := by simpa using hq
  have e : (sl_Change.flat d.toList)[t]? = ((sl_Change.flat d.toList).drop (t / 3 * 3))[t % 3]? := by
    rw [List.getElem?_drop]
    congr 1
    omega
  have e2 : d[t / 3]! = d.toList[t / 3] := by rw [getElem!_pos d _ hq, Array.getElem_toList]
  rw [e, sl_Change.flat_drop, List.drop_eq_getElem_cons hq', e2]
  generalize d.toList[t / 3] = x
  show ([Value.string x.f0, Value.string x.f1, Value.bool x.f2] ++ sl_Change.flat _)[t % 3]? = _
  rcases (by omega : t % 3 = 0 ∨ t % 3 = 1 ∨ t % 3 = 2) with h | h | h <;> rw [h] <;> rfl
theorem impl_Change.block {w : World} {g : Nat} {e : TypeId} {cur : Array Value} (hh : w.heap[g]? = some (.cells cur e (0, 0))) (n : Nat) (d : Array S109) (os : Array Obj) :
    (sortWorldK impl_Change.enc 3 w g 0 n d os).heap[g]? = some (.cells (Go.Sort.putCells id 0 (Go.Sort.flatK impl_Change.enc 3 d) cur) e (0, 0)) := by
  have hg : g < w.heap.size := blk_lt hh
  show ((w.heap.modify g (Go.Sort.onCells (Go.Sort.putCells id 0 (Go.Sort.flatK impl_Change.enc 3 d)))) ++ os)[g]? = _
  rw [Array.getElem?_append_left (by simpa using hg), Array.getElem?_modify, if_pos rfl, hh]
  rfl
theorem impl_Change.far {w : World} {g k : Nat} (hk : k < w.heap.size) (hkg : k ≠ g) (n : Nat) (d : Array S109) (os : Array Obj) : (sortWorldK impl_Change.enc 3 w g 0 n d os).heap[k]? = w.heap[k]? := by
  show ((w.heap.modify g (Go.Sort.onCells (Go.Sort.putCells id 0 (Go.Sort.flatK impl_Change.enc 3 d)))) ++ os)[k]? = _
  rw [Array.getElem?_append_left (by simpa using hk), Array.getElem?_modify, if_neg (fun h => hkg h.symm)]
theorem impl_Change.uniq_of {l : List S109} (h : impl_Change.uniq l = true) : l.length ≤ 1048576 ∧ ∀ x, x ∈ l → ∀ y, y ∈ l → x.f0 = y.f0 → x = y := by
  unfold impl_Change.uniq at h
  simp only [Bool.and_eq_true, decide_eq_true_eq, List.all_eq_true, Bool.or_eq_true] at h
  refine ⟨h.1, fun x hx y hy e => ?_⟩
  rcases h.2 x hx y hy with h1 | ⟨h1, h2⟩
  · exact absurd e h1
  · cases x; cases y; simp only at e h1 h2; rw [e, h1, h2]
theorem impl_Change.sorted {l : List S109} (h : impl_Change.uniq l = true) (d : Array S109) (hp : Go.Sort.PermIn 0 l.toArray.size l.toArray d) (hs : Go.Sort.SortedIn (ltOf impl_Change.cf) 0 l.toArray.size d) : d.toList = l.mergeSort fun x y => !decide (impl_Change.cf y x < 0) := by
  obtain ⟨hsz, _, hperm⟩ := hp
  have e1 : d.extract 0 l.toArray.size = d := by rw [← hsz]; exact Array.extract_size
  rw [e1, Array.extract_size] at hperm
  have hU := (impl_Change.uniq_of h).2
  have hlt : ∀ x y : S109, decide (impl_Change.cf x y < 0) = ltOf impl_Change.cf x y := fun _ _ => rfl
  refine List.Perm.eq_of_pairwise (le := fun x y => (!ltOf impl_Change.cf y x) = true) ?_ ?_ ?_ (hperm.trans (List.mergeSort_perm _ _).symm)
  · intro a b ha hb h1 h2
    rw [impl_Change.lt_eq, Bool.not_eq_true', decide_eq_false_iff_not] at h1 h2
    refine hU a (hperm.subset ha) b ((List.mergeSort_perm l _).subset hb) ?_
    have := List.le_antisymm (List.not_lt.1 h1) (List.not_lt.1 h2)
    exact ByteArray.ext (Array.ext' this)
  · rw [List.pairwise_iff_getElem]
    intro i j hi hj hij
    have hi' : i < d.size := by simpa using hi
    have hj' : j < d.size := by simpa using hj
    have := hs i j (Nat.zero_le _) hij (by omega)
    rw [getElem!_pos d j hj', getElem!_pos d i hi'] at this
    rw [Bool.not_eq_true']
    simpa using this
  · have := List.pairwise_mergeSort (le := fun x y => !ltOf impl_Change.cf y x) (fun a b c h1 h2 => by
      rw [Bool.not_eq_true'] at *
      exact impl_Change.swo.ntrans c b a h2 h1) (fun a b => by
      by_cases hab : ltOf impl_Change.cf a b = true
      · have : ltOf impl_Change.cf b a = false := by
          rcases Bool.eq_false_or_eq_true (ltOf impl_Change.cf b a) with hb | hb
          · have := impl_Change.swo.trans _ _ _ hab hb
            rw [impl_Change.swo.irrefl] at this
            cases this
          · exact hb
        rw [this]; rfl
      · rw [Bool.not_eq_true] at hab
        rw [hab]; simp) l
    exact this
set_option maxHeartbeats 8000000 in
set_option maxRecDepth 100000 in
theorem impl_Change.calls (P0_ : Nat → Prop) (u9000_ : Value) (l0 : List S109) (a1 : Unit) (r : List S109) (w0 w : World) (hB : Below w0.heap.size w0 w) (ho0 : Kd.R k109 109 w w0.heap.size P0_ u9000_ l0) (h : impl_Change.f l0 a1 = some r) :
    Calls Try.prog 72 #[u9000_, .func (.func 73) #[] #[]] w fun e w' => e = .returned (.tuple #[]) ∧ Kd.R k109 109 w' w0.heap.size (fun k_ => (P0_ k_ ∨ w.heap.size ≤ k_)) u9000_ r ∧ Below w0.heap.size w0 w' ∧ Kept w w' (fun k_ => P0_ k_) := by
  unfold impl_Change.f at h
  by_cases hu : impl_Change.uniq l0 = true
  rotate_left
  · rw [if_neg hu] at h
    exact absurd h (by simp)
  rw [if_pos hu] at h
  obtain rfl := Option.some.inj h
  clear h
  have hbig := (impl_Change.uniq_of hu).1
  by_cases hl : l0 = []
  · subst hl
    have hk := ho0
    obtain ⟨-, inner, ⟨-, hform⟩, -⟩ := ho0
    rw [List.mergeSort_nil]
    have fin : ∀ (e : Ending) (w' : World), e = .returned (.tuple #[]) ∧ w' = w → e = .returned (.tuple #[]) ∧ Kd.R k109 109 w' w0.heap.size (fun k_ => (P0_ k_ ∨ w.heap.size ≤ k_)) u9000_ [] ∧ Below w0.heap.size w0 w' ∧ Kept w w' (fun k_ => P0_ k_) := by
      rintro e w' ⟨rfl, rfl⟩
      exact ⟨rfl, Kd.R_mono hk (fun _ h => Or.inl h), hB, Kept.refl _ _⟩
    rcases hform with ⟨rfl, -⟩ | ⟨g, cap, cur, rfl, -, -, -, -, -, -⟩
    · exact (AnyF.slices_SortFunc_none impl_Change.lays none 0 (.func (.func 73) #[] #[]) w).mono fin
    · exact (AnyF.slices_SortFunc_none impl_Change.lays (some ⟨g, 0, none⟩) cap (.func (.func 73) #[] #[]) w).mono fin
  have hpos : 0 < l0.length := List.length_pos_iff.2 hl
  obtain ⟨g, cap, rfl, hg0, hg1, -⟩ := Kd.R_form ho0 hpos
  obtain ⟨hok, -, -, hnc, hcm, cur, hh, hcs, htk⟩ := sl_Change.open_ ho0
  have hsz : l0.toArray.size = l0.length := List.size_toArray
  have hH : Go.Sort.HoldsK impl_Change.enc 3 w g 0 l0.toArray := fun j hj => by
    rw [Go.Sort.size_flatK, hsz] at hj
    refine ⟨?_, blk_frozen hh _⟩
    have e := impl_Change.flatK_get l0.toArray j (by rw [hsz]; exact hj)
    rw [Nat.zero_add, cell_of_row w g _ cur 109 (0, 0) hh, ← Array.getElem?_toList]
    have e3 : (cur.toList.take (l0.length * 3))[j]? = cur.toList[j]? := by rw [List.getElem?_take, if_pos hj]
    rw [← e3, htk]
    exact e
  have eg : ∀ args w, (callFunc 73 args).run Try.prog w = .ok (.enter 73 args) w := enters_of Try.func73 (by kernel_rfl) rfl
  have hcon := AnyQ.slices_SortFunc impl_Change.lays 3 Try.isAgg109 Try.sizeOf109 impl_Change.enc (fun _ => rfl) (fun x v hv => by simp [impl_Change.enc] at hv; rcases hv with rfl | rfl | rfl <;> rfl) impl_Change.cf impl_Change.swo 73 #[] g 0 cap l0.toArray w eg (fun _ _ _ _ x y => impl_Change.closure x y _) hH hg1 (by rw [hsz]; omega)
  change Calls Try.prog 72 _ _ _ at hcon
  rw [hsz] at hcon
  refine hcon.mono ?_
  rintro e w' ⟨rfl, d', n', os, hp, hs, rfl⟩
  rw [← hsz] at hp hs
  have hd := impl_Change.sorted hu d' hp hs
  have hdl : d'.size = l0.length := by rw [hp.1, hsz]
  have hb1 := impl_Change.block hh n' d' os
  have hsize := size_sortWorldK_c impl_Change.enc 3 w g 0 n' d' os
  have hml : (l0.mergeSort fun x y => !decide (impl_Change.cf y x < 0)).length = l0.length := List.length_mergeSort _
  refine ⟨rfl, ?_, ⟨hB.os, hB.tape, hB.output, Nat.le_trans hB.size hsize, fun k hk => ?_⟩, hsize, fun k hk hP => impl_Change.far hk (fun e => hP (e ▸ hok)) n' d' os⟩
  · refine sl_Change.close_ (Or.inl hok) hg0 hml.symm hnc hcm hb1 (by unfold Go.Sort.putCells; rw [Array.size_mapIdx]; exact hcs) ?_
    rw [← hd]
    refine List.ext_getElem? fun j => ?_
    rw [List.getElem?_take]
    by_cases hj : j < l0.length * 3
    · rw [if_pos hj, impl_Change.flatK_get d' j (by rw [hdl]; exact hj), Array.getElem?_toList]
      unfold Go.Sort.putCells
      rw [Array.getElem?_mapIdx, Array.getElem?_eq_getElem (by omega), Option.map_some, if_pos ⟨Nat.zero_le _, by rw [Go.Sort.size_flatK, hdl]; omega⟩]
      rfl
    · rw [if_neg hj, List.getElem?_eq_none (by rw [sl_Change.flat_len, Array.length_toList, hdl]; omega)]
  · exact (impl_Change.far (by have := hB.size; omega) (by omega) n' d' os).trans (hB.block k hk)

end Go.Proofs.Ytpjhbhjmaggheaa.QFnMaps
