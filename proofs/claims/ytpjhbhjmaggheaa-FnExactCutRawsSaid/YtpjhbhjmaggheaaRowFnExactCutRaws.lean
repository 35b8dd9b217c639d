/- The row of the law FnExactCutRaws: for every input that can be read the law returns true and leaves its arguments as they were; no further condition. Out of the contract of the law's walk and the pure theorem FnExactCutRaws. -/
import Derived.Test.YtpjhbhjmaggheaaRows
import Derived.Test.YtpjhbhjmaggheaaQFnExactCutRawsx0
import Derived.Test.YtpjhbhjmaggheaaQFnExactCutRawsx1
import Derived.Test.YtpjhbhjmaggheaaQFnExactCutRawsx2
import Derived.Test.YtpjhbhjmaggheaaQFnExactCutRawsx3
import Derived.Test.YtpjhbhjmaggheaaQFnExactCutRawsx4
import Derived.Test.YtpjhbhjmaggheaaQFnExactCutRawsx5
import Derived.Test.YtpjhbhjmaggheaaQFnExactCutRawsx6
import Derived.Test.YtpjhbhjmaggheaaQFnExactCutRawsx7
import Derived.Test.YtpjhbhjmaggheaaQFnExactCutRawsx8
import Derived.Test.YtpjhbhjmaggheaaQFnExactCutRawsx9
import Derived.Test.YtpjhbhjmaggheaaQFnExactCutRawsx10
import Derived.Test.YtpjhbhjmaggheaaQFnExactCutRawsx11
import Derived.Test.YtpjhbhjmaggheaaQFnExactCutRawsx12
import Derived.Test.YtpjhbhjmaggheaaQFnExactCutRawsx13
import Derived.Test.YtpjhbhjmaggheaaPureFnExactCutRaws
import Derived.WalkKit
import Derived.ProofKit
import Derived.OpenShut
import Derived.ShutString
import Derived.ChangeOld
import Derived.Below
import Derived.SizedLaws
import Derived.Carry
import Derived.DataReads
import Derived.DataElems
import Derived.ChangeArms
namespace Go.Proofs.Ytpjhbhjmaggheaa.fnExactCutRawsRow
open Go.ChangeShapes Go.WideShapes Go.ChangeAt Go.RowKit Go.Proofs.YtpjhbhjmaggheaaW.PrintWords Go.Proofs.Ytpjhbhjmaggheaa.QFnExactCutRaws
set_option linter.unusedVariables false
theorem own : ownKnob Try.prog.godebug = none := by kernel_rfl
theorem laidOut : laidOutB Try.prog = true := by kernel_rfl
def Opens {α : Type} (P : Program) (t : TypeId) (d : Kd α) (ok : α → Prop) : Prop :=
  ∀ {H : Type} {enc : TypeId × Value → H} {w : World} {base : Nat} {spare : Nat → Bool} {held : Bool} {fuel : Nat} {cs : List Value} {x : DataW H × List MemPlace},
    DataW.trod enc P w base spare held fuel t cs = some x → ∃ a : α, d.K w a cs ∧ ok a
theorem opens_int {P : Program} {t : TypeId} {k : IntKind} (ht : P.underlying t = some (.int k)) : Opens P t (Kd.int k) (fun n => (Lit.int k n).wf = true) := by
  intro H enc w base spare held fuel cs x h
  obtain ⟨n, rfl, _, hw⟩ := DataW.trod_int ht h
  exact ⟨n, rfl, hw⟩
theorem opens_bool {P : Program} {t : TypeId} (ht : P.underlying t = some .bool) : Opens P t Kd.bool (fun _ => True) := by
  intro H enc w base spare held fuel cs x h
  obtain ⟨n, rfl, _⟩ := DataW.trod_bool ht h
  exact ⟨n, rfl, trivial⟩
theorem opens_string {P : Program} {t : TypeId} (ht : P.underlying t = some .string) : Opens P t Kd.string (fun s => s.size ≤ maxLen) := by
  intro H enc w base spare held fuel cs x h
  obtain ⟨n, rfl, _, hw⟩ := DataW.trod_string ht h
  exact ⟨n, rfl, hw⟩
theorem list_of {α : Type} (Q : Nat → α → Prop) : ∀ n, (∀ i, i < n → ∃ a, Q i a) → ∃ l : List α, l.length = n ∧ ∀ i a, l[i]? = some a → Q i a
  | 0, _ => ⟨[], rfl, fun i a h => by simp at h⟩
  | n + 1, h => by
    obtain ⟨l, hl, hq⟩ := list_of Q n (fun i hi => h i (by omega))
    obtain ⟨a, ha⟩ := h n (by omega)
    refine ⟨l ++ [a], by simp [hl], fun i b hb => ?_⟩
    by_cases hi : i < l.length
    · rw [List.getElem?_append_left hi] at hb
      exact hq i b hb
    · rw [List.getElem?_append_right (by omega)] at hb
      have : i - l.length = 0 := by
        have := (List.getElem?_eq_some_iff.1 hb).1
        simp at this
        omega
      rw [this] at hb
      simp at hb
      rw [show i = n by omega, ← hb]
      exact ha
theorem opens_slice {α : Type} {P : Program} {t e : TypeId} {d : Kd α} {ok : α → Prop} (ht : P.underlying t = some (.slice e)) (hc : P.cellsOf e = d.sz) (ho : Opens P e d ok) :
    Opens P t (Kd.slice e d) (fun l => l.length ≤ maxLen ∧ ∀ a ∈ l, ok a) := by
  intro H enc w base spare held fuel cs x h
  rcases DataW.trod_slice ht h with ⟨rfl, _⟩ | ⟨a, len, cap, elems, rest, n, rfl, rfl, _, _, hl, hm, he, hg, _, _⟩
  · exact ⟨[], ⟨none, 0, rfl, Nat.le_refl _, rfl, Nat.zero_le _, fun h => absurd h (by simp)⟩, Nat.zero_le _, fun a h => by cases h⟩
  · obtain ⟨l, hll, hq⟩ := list_of (fun i b => ok b ∧ ∃ c, d.K w b c ∧ c.length = d.sz ∧ ∀ j u, c[j]? = some u → w.cell? (a.add (i * d.sz + j)) = some u) len (fun i hi => by
      have g := hg i hi
      obtain ⟨y, hy⟩ : ∃ y, elems[i]? = some y := ⟨elems[i]'(by omega), List.getElem?_eq_getElem _⟩
      rw [hy] at g
      obtain ⟨c, hcc, hcd⟩ := Option.bind_eq_some_iff.1 g
      obtain ⟨b, hb, hok⟩ := ho hcd
      rw [hc] at hcc
      obtain ⟨_, hcl, hcell⟩ := World.cells?_some hcc
      refine ⟨b, hok, c, hb, hcl, fun j u hu => ?_⟩
      have hj : j < c.length := (List.getElem?_eq_some_iff.1 hu).1
      have := hcell j (by omega)
      rw [Addr.add_add] at this
      rw [this, hu])
    refine ⟨l, ⟨some a, cap, by rw [hll], by omega, rfl, by unfold maxLen at hm; omega, fun _ => ⟨a, rfl, fun j p hp => ?_⟩⟩, by omega, fun b hb => ?_⟩
    · obtain ⟨_, c, h1, h2, h3⟩ := hq j p hp
      exact ⟨c, h2, h1, h3⟩
    · obtain ⟨i, hi, rfl⟩ := List.getElem_of_mem hb
      exact (hq i _ (List.getElem?_eq_getElem hi)).1
theorem len1 {α : Type} : ∀ {l : List α}, l.length = 1 → ∃ a, l = [a]
  | [a], _ => ⟨a, rfl⟩
theorem len2 {α : Type} : ∀ {l : List α}, l.length = 2 → ∃ a b, l = [a, b]
  | [a, b], _ => ⟨a, b, rfl⟩
theorem len3 {α : Type} : ∀ {l : List α}, l.length = 3 → ∃ a b c, l = [a, b, c]
  | [a, b, c], _ => ⟨a, b, c, rfl⟩
theorem len4 {α : Type} : ∀ {l : List α}, l.length = 4 → ∃ a b c d, l = [a, b, c, d]
  | [a, b, c, d], _ => ⟨a, b, c, d, rfl⟩
theorem len5 {α : Type} : ∀ {l : List α}, l.length = 5 → ∃ a b c d e, l = [a, b, c, d, e]
  | [a, b, c, d, e], _ => ⟨a, b, c, d, e, rfl⟩
theorem opens9 : Opens Try.prog 9 Kd.string (fun x => x.size ≤ maxLen) := opens_string Try.underlying9
theorem opens136 : Opens Try.prog 136 k136 (fun x => (x.f0.size ≤ maxLen) ∧ (x.f1.size ≤ maxLen)) := by
  intro H enc w base spare held fuel cs x h
  obtain ⟨xs, m, rfl, rfl, hl, hx, hf⟩ := DataW.trod_struct Try.underlying136 h
  have hl' : cs.length = 2 := hl.trans (by kernel_rfl)
  obtain ⟨v0, v1, rfl⟩ := len2 hl'
  obtain ⟨y0, hy0⟩ : ∃ y, xs[0]? = some y := ⟨xs[0]'(by rw [hx]; decide), List.getElem?_eq_getElem _⟩
  have e0 : Try.prog.cellsOf 9 = 1 := by kernel_rfl
  have q0 : DataW.trod enc Try.prog w base spare held m 9 ((List.drop 0 [v0, v1]).take (Try.prog.cellsOf 9)) = some y0 := (hf 0 _ rfl).trans hy0
  rw [e0] at q0
  obtain ⟨a0, g0, o0⟩ := opens9 q0
  replace g0 : Kd.string.K w a0 [v0] := g0
  obtain ⟨y1, hy1⟩ : ∃ y, xs[1]? = some y := ⟨xs[1]'(by rw [hx]; decide), List.getElem?_eq_getElem _⟩
  have e1 : Try.prog.cellsOf 9 = 1 := by kernel_rfl
  have q1 : DataW.trod enc Try.prog w base spare held m 9 ((List.drop 1 [v0, v1]).take (Try.prog.cellsOf 9)) = some y1 := (hf 1 _ rfl).trans hy1
  rw [e1] at q1
  obtain ⟨a1, g1, o1⟩ := opens9 q1
  replace g1 : Kd.string.K w a1 [v1] := g1
  refine ⟨⟨a0, a1⟩, ?_, o0, o1⟩
  exact ⟨[v0], [v1], rfl, g0, g1⟩
theorem opens22 : Opens Try.prog 22 (Kd.slice 136 k136) (fun x => x.length ≤ maxLen ∧ ∀ y ∈ x, (y.f0.size ≤ maxLen) ∧ (y.f1.size ≤ maxLen)) := opens_slice Try.underlying22 (by kernel_rfl) opens136
theorem openArg24 {H : Type} {enc : TypeId × Value → H} {w : World} {base : Nat} {spare : Nat → Bool} {held : Bool} {fuel : Nat} {cs : List Value} {x : DataW H × List MemPlace} (h : DataW.trod enc Try.prog w base spare held fuel 24 cs = some x) :
    ∃ (v0 : Value) (a0 : List S136), cs = [v0] ∧ ((Kd.slice 136 k136).K w a0 [v0] ∧ (a0.length ≤ maxLen ∧ ∀ y ∈ a0, (y.f0.size ≤ maxLen) ∧ (y.f1.size ≤ maxLen))) := by
  obtain ⟨xs, m, rfl, rfl, hl, hx, hf⟩ := DataW.trod_struct Try.underlying24 h
  have hl' : cs.length = 1 := hl.trans (by kernel_rfl)
  obtain ⟨v0, rfl⟩ := len1 hl'
  obtain ⟨y0, hy0⟩ : ∃ y, xs[0]? = some y := ⟨xs[0]'(by rw [hx]; decide), List.getElem?_eq_getElem _⟩
  have e0 : Try.prog.cellsOf 22 = 1 := by kernel_rfl
  have q0 : DataW.trod enc Try.prog w base spare held m 22 ((List.drop 0 [v0]).take (Try.prog.cellsOf 22)) = some y0 := (hf 0 _ rfl).trans hy0
  rw [e0] at q0
  obtain ⟨a0, g0, o0⟩ := opens22 q0
  replace g0 : (Kd.slice 136 k136).K w a0 [v0] := g0
  exact ⟨v0, a0, rfl, ⟨g0, o0⟩⟩
theorem opens3 : Opens Try.prog 3 (Kd.int .i64) (fun x => (Lit.int .i64 x).wf = true) := opens_int Try.underlying3
theorem opens73 : Opens Try.prog 73 k73 (fun x => ((Lit.int .i64 x.f0).wf = true) ∧ (x.f1.size ≤ maxLen) ∧ (x.f2.size ≤ maxLen) ∧ (x.f3.size ≤ maxLen)) := by
  intro H enc w base spare held fuel cs x h
  obtain ⟨xs, m, rfl, rfl, hl, hx, hf⟩ := DataW.trod_struct Try.underlying73 h
  have hl' : cs.length = 4 := hl.trans (by kernel_rfl)
  obtain ⟨v0, v1, v2, v3, rfl⟩ := len4 hl'
  obtain ⟨y0, hy0⟩ : ∃ y, xs[0]? = some y := ⟨xs[0]'(by rw [hx]; decide), List.getElem?_eq_getElem _⟩
  have e0 : Try.prog.cellsOf 3 = 1 := by kernel_rfl
  have q0 : DataW.trod enc Try.prog w base spare held m 3 ((List.drop 0 [v0, v1, v2, v3]).take (Try.prog.cellsOf 3)) = some y0 := (hf 0 _ rfl).trans hy0
  rw [e0] at q0
  obtain ⟨a0, g0, o0⟩ := opens3 q0
  replace g0 : (Kd.int .i64).K w a0 [v0] := g0
  obtain ⟨y1, hy1⟩ : ∃ y, xs[1]? = some y := ⟨xs[1]'(by rw [hx]; decide), List.getElem?_eq_getElem _⟩
  have e1 : Try.prog.cellsOf 9 = 1 := by kernel_rfl
  have q1 : DataW.trod enc Try.prog w base spare held m 9 ((List.drop 1 [v0, v1, v2, v3]).take (Try.prog.cellsOf 9)) = some y1 := (hf 1 _ rfl).trans hy1
  rw [e1] at q1
  obtain ⟨a1, g1, o1⟩ := opens9 q1
  replace g1 : Kd.string.K w a1 [v1] := g1
  obtain ⟨y2, hy2⟩ : ∃ y, xs[2]? = some y := ⟨xs[2]'(by rw [hx]; decide), List.getElem?_eq_getElem _⟩
  have e2 : Try.prog.cellsOf 9 = 1 := by kernel_rfl
  have q2 : DataW.trod enc Try.prog w base spare held m 9 ((List.drop 2 [v0, v1, v2, v3]).take (Try.prog.cellsOf 9)) = some y2 := (hf 2 _ rfl).trans hy2
  rw [e2] at q2
  obtain ⟨a2, g2, o2⟩ := opens9 q2
  replace g2 : Kd.string.K w a2 [v2] := g2
  obtain ⟨y3, hy3⟩ : ∃ y, xs[3]? = some y := ⟨xs[3]'(by rw [hx]; decide), List.getElem?_eq_getElem _⟩
  have e3 : Try.prog.cellsOf 9 = 1 := by kernel_rfl
  have q3 : DataW.trod enc Try.prog w base spare held m 9 ((List.drop 3 [v0, v1, v2, v3]).take (Try.prog.cellsOf 9)) = some y3 := (hf 3 _ rfl).trans hy3
  rw [e3] at q3
  obtain ⟨a3, g3, o3⟩ := opens9 q3
  replace g3 : Kd.string.K w a3 [v3] := g3
  refine ⟨⟨a0, a1, a2, a3⟩, ?_, o0, o1, o2, o3⟩
  exact ⟨[v0], [v1, v2, v3], rfl, g0, ⟨[v1], [v2, v3], rfl, g1, ⟨[v2], [v3], rfl, g2, g3⟩⟩⟩
theorem opens25 : Opens Try.prog 25 (Kd.slice 73 k73) (fun x => x.length ≤ maxLen ∧ ∀ y ∈ x, ((Lit.int .i64 y.f0).wf = true) ∧ (y.f1.size ≤ maxLen) ∧ (y.f2.size ≤ maxLen) ∧ (y.f3.size ≤ maxLen)) := opens_slice Try.underlying25 (by kernel_rfl) opens73
set_option maxRecDepth 100000 in
theorem lifted (os : Os) (started : os.Started) (H : Type) (enc : TypeId × Value → H) :
    ReturnsInHanded {} Try.checked os 3 .any (Rows.fnExactCutRawsSpec.pre6 enc Try.prog Try.f3 Rows.fnExactCutRawsRow.domain false) (Rows.fnExactCutRawsSpec.post enc Try.prog Try.f3 false true false false) := by
  refine returnsInHanded_of_change_sized (C := Try.checked) own started (by kernel_rfl) Try.func3
    (ChangeSpec.witness6 (enc := enc) (C := Try.checked) false ⟨#[], #[.agg #[.slice none 0 0], .slice none 0 0, .int .i64 0, .int .i64 0], []⟩ 8 (by kernel_rfl) (by kernel_rfl) (by kernel_rfl) (by kernel_rfl)) ?_
  intro W base args ds gs before hval0 hW hcnd hsz0 _
  have hval : ∀ (j : Nat) t v, Try.f3.params[j]? = some t → args[j]? = some v → Value.okWide Try.prog W .any base t v := hval0
  have hW' := hW
  obtain ⟨p, q, hA0, hV, rfl, hfz, hnd⟩ := hW
  have hA : DataW.TrodAll enc Try.prog W 0 (fun _ => true) true Try.f3.params.toList args.toList ds p := hA0
  rw [Try.params3] at hA hval
  obtain ⟨v0, vs0, d0, ds0, p0, q0, hargs, rfl, rfl, h0, r0⟩ := trodAll_cons hA
  obtain ⟨v1, vs1, d1, ds1, p1, q1, rfl, rfl, rfl, h1, r1⟩ := trodAll_cons r0
  obtain ⟨v2, vs2, d2, ds2, p2, q2, rfl, rfl, rfl, h2, r2⟩ := trodAll_cons r1
  obtain ⟨v3, vs3, d3, ds3, p3, q3, rfl, rfl, rfl, h3, r3⟩ := trodAll_cons r2
  obtain ⟨rfl, rfl, rfl⟩ := trodAll_nil r3
  obtain rfl : args = #[v0, v1, v2, v3] := by cases args; simp_all
  obtain ⟨rfl, rfl⟩ := trodVars_none hV
  have k0 := h0
  have lt0 : ∀ x ∈ p0, x.block < W.heap.size := by obtain ⟨m, hm⟩ := k0; exact DataW.trod_lt m _ _ _ hm
  obtain ⟨cs0, rfl, _⟩ := okWide_struct Try.underlying24 (hval 0 24 v0 rfl rfl)
  obtain ⟨b0_0, a0_0, hcs0, ⟨g0_0, w0_0⟩⟩ := (by obtain ⟨fuel, hf⟩ := h0; exact openArg24 hf : ∃ (v0 : Value) (a0 : List S136), cs0.toList = [v0] ∧ ((Kd.slice 136 k136).K W a0 [v0] ∧ (a0.length ≤ maxLen ∧ ∀ y ∈ a0, (y.f0.size ≤ maxLen) ∧ (y.f1.size ≤ maxLen))))
  obtain rfl : cs0 = #[b0_0] := by cases cs0; simp_all
  obtain ⟨A0_0, c0_0, g0_0, hc0_0, hr0_0⟩ := g0_0
  injection g0_0 with g0_0 _
  subst g0_0
  have k1 := h1
  have lt1 : ∀ x ∈ p1, x.block < W.heap.size := by obtain ⟨m, hm⟩ := k1; exact DataW.trod_lt m _ _ _ hm
  obtain ⟨A1, len1, c1, rfl⟩ := okWide_slice Try.underlying25 (hval 1 25 v1 rfl rfl)
  obtain ⟨l1, g1, w1⟩ : ∃ a, (Kd.slice 73 k73).K W a [.slice A1 len1 c1] ∧ (a.length ≤ maxLen ∧ ∀ y ∈ a, ((Lit.int .i64 y.f0).wf = true) ∧ (y.f1.size ≤ maxLen) ∧ (y.f2.size ≤ maxLen) ∧ (y.f3.size ≤ maxLen)) := by obtain ⟨fuel, hf⟩ := h1; exact opens25 hf
  obtain ⟨A_, c_, g1, hc1, hr1⟩ := g1
  injection g1 with g1 _
  injection g1 with ga1 gl1 gc1
  subst ga1 gl1 gc1
  have k2 := h2
  have lt2 : ∀ x ∈ p2, x.block < W.heap.size := by obtain ⟨m, hm⟩ := k2; exact DataW.trod_lt m _ _ _ hm
  obtain ⟨x2, rfl⟩ := okWide_int Try.underlying3 (hval 2 3 v2 rfl rfl)
  obtain ⟨a2, g2, w2⟩ : ∃ a, (Kd.int .i64).K W a [.int .i64 x2] ∧ ((Lit.int .i64 a).wf = true) := by obtain ⟨fuel, hf⟩ := h2; exact opens3 hf
  injection g2 with g2 _
  injection g2
  subst_vars
  have k3 := h3
  have lt3 : ∀ x ∈ p3, x.block < W.heap.size := by obtain ⟨m, hm⟩ := k3; exact DataW.trod_lt m _ _ _ hm
  obtain ⟨x3, rfl⟩ := okWide_int Try.underlying3 (hval 3 3 v3 rfl rfl)
  obtain ⟨a3, g3, w3⟩ : ∃ a, (Kd.int .i64).K W a [.int .i64 x3] ∧ ((Lit.int .i64 a).wf = true) := by obtain ⟨fuel, hf⟩ := h3; exact opens3 hf
  injection g3 with g3 _
  injection g3
  subst_vars
  clear hA0 hval0 hsz0
  obtain ⟨k, hk⟩ := Pure.FnExactCutRaws a0_0 l1 a2 a3 w0_0 w1 w2 w3
  refine (laws_FnExactCutRaws.calls k _ _ a0_0 _ _ l1 a2 a3 true W hr0_0 hc0_0 hr1 hc1 hk).mono ?_
  rintro e W' ⟨he, bel⟩
  subst he
  exact ⟨_, rfl, _, _, _, [], _, [], hW', trodAll_mk1 (shut_bool Try.underlying4 _), (trodAll_cons_mk (Below.trod laidOut (by kernel_rfl) (of_decide_eq_true (by kernel_rfl)) k0 bel lt0) (trodAll_cons_mk (Below.trod laidOut (by kernel_rfl) (of_decide_eq_true (by kernel_rfl)) k1 bel lt1) (trodAll_cons_mk (Below.trod laidOut (by kernel_rfl) (of_decide_eq_true (by kernel_rfl)) k2 bel lt2) (trodAll_cons_mk (Below.trod laidOut (by kernel_rfl) (of_decide_eq_true (by kernel_rfl)) k3 bel lt3) trodAll_mk0)))), rfl, bel.frame _, fun h => by cases h⟩
theorem over : Rows.fnExactCutRawsRow.holds Try.pinned (OpenSpec.ofChange Rows.fnExactCutRawsSpec) :=
  OpenClaim.holds_of_wide 3 Try.f3 rfl rfl rfl rfl rfl rfl rfl ⟨rfl, rfl, rfl, rfl, rfl⟩ rfl rfl rfl rfl rfl (by kernel_rfl) Try.func3 (by kernel_rfl)
    (of_decide_eq_true (by kernel_rfl)) (by unfold Func.isWrapper; first | (rw [if_pos (by decide +kernel)]; kernel_rfl) | (rw [if_neg (by decide +kernel)]; exact ⟨rfl, rfl⟩))
    (fun os started H enc _ => lifted os started H enc)
end Go.Proofs.Ytpjhbhjmaggheaa.fnExactCutRawsRow
namespace Go.Proofs.Ytpjhbhjmaggheaa
theorem fnExactCutRaws_holds : Rows.FnExactCutRawsSaid := fnExactCutRawsRow.over
end Go.Proofs.Ytpjhbhjmaggheaa
