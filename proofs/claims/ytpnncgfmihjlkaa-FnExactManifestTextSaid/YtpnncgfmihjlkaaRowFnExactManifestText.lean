/- The row of the law FnExactManifestText: for every input that can be read the law returns true and leaves its arguments as they were; no further condition. Out of the contract of the law's walk and the pure theorem FnExactManifestText. -/
import Derived.Test.YtpnncgfmihjlkaaRows
import Derived.Test.YtpnncgfmihjlkaaQFnExactManifestTextx0
import Derived.Test.YtpnncgfmihjlkaaQFnExactManifestTextx1
import Derived.Test.YtpnncgfmihjlkaaQFnExactManifestTextx2
import Derived.Test.YtpnncgfmihjlkaaQFnExactManifestTextx3
import Derived.Test.YtpnncgfmihjlkaaQFnExactManifestTextx4
import Derived.Test.YtpnncgfmihjlkaaQFnExactManifestTextx5
import Derived.Test.YtpnncgfmihjlkaaPureFnExactManifestText
import Derived.WalkKit
import Derived.ProofKit
import Derived.OpenShut
import Derived.ShutString
import Derived.ChangeOld
import Derived.Below
import Derived.SizedLaws
import Derived.Carry
import Derived.DataReads
import Derived.DataElems
import Derived.ChangeArms
namespace Go.Proofs.Ytpnncgfmihjlkaa.fnExactManifestTextRow
open Go.ChangeShapes Go.WideShapes Go.ChangeAt Go.RowKit Go.Proofs.YtpnncgfmihjlkaaW.PrintWords Go.Proofs.Ytpnncgfmihjlkaa.QFnExactManifestText
set_option linter.unusedVariables false
theorem own : ownKnob Try.prog.godebug = none := by kernel_rfl
theorem laidOut : laidOutB Try.prog = true := by kernel_rfl
def Opens {α : Type} (P : Program) (t : TypeId) (d : Kd α) (ok : α → Prop) : Prop :=
  ∀ {H : Type} {enc : TypeId × Value → H} {w : World} {base : Nat} {spare : Nat → Bool} {held : Bool} {fuel : Nat} {cs : List Value} {x : DataW H × List MemPlace},
    DataW.trod enc P w base spare held fuel t cs = some x → ∃ a : α, d.K w a cs ∧ ok a
theorem opens_int {P : Program} {t : TypeId} {k : IntKind} (ht : P.underlying t = some (.int k)) : Opens P t (Kd.int k) (fun n => (Lit.int k n).wf = true) := by
  intro H enc w base spare held fuel cs x h
  obtain ⟨n, rfl, _, hw⟩ := DataW.trod_int ht h
  exact ⟨n, rfl, hw⟩
theorem opens_bool {P : Program} {t : TypeId} (ht : P.underlying t = some .bool) : Opens P t Kd.bool (fun _ => True) := by
  intro H enc w base spare held fuel cs x h
  obtain ⟨n, rfl, _⟩ := DataW.trod_bool ht h
  exact ⟨n, rfl, trivial⟩
theorem opens_string {P : Program} {t : TypeId} (ht : P.underlying t = some .string) : Opens P t Kd.string (fun s => s.size ≤ maxLen) := by
  intro H enc w base spare held fuel cs x h
  obtain ⟨n, rfl, _, hw⟩ := DataW.trod_string ht h
  exact ⟨n, rfl, hw⟩
theorem list_of {α : Type} (Q : Nat → α → Prop) : ∀ n, (∀ i, i < n → ∃ a, Q i a) → ∃ l : List α, l.length = n ∧ ∀ i a, l[i]? = some a → Q i a
  | 0, _ => ⟨[], rfl, fun i a h => by simp at h⟩
  | n + 1, h => by
    obtain ⟨l, hl, hq⟩ := list_of Q n (fun i hi => h i (by omega))
    obtain ⟨a, ha⟩ := h n (by omega)
    refine ⟨l ++ [a], by simp [hl], fun i b hb => ?_⟩
    by_cases hi : i < l.length
    · rw [List.getElem?_append_left hi] at hb
      exact hq i b hb
    · rw [List.getElem?_append_right (by omega)] at hb
      have : i - l.length = 0 := by
        have := (List.getElem?_eq_some_iff.1 hb).1
        simp at this
        omega
      rw [this] at hb
      simp at hb
      rw [show i = n by omega, ← hb]
      exact ha
theorem opens_slice {α : Type} {P : Program} {t e : TypeId} {d : Kd α} {ok : α → Prop} (ht : P.underlying t = some (.slice e)) (hc : P.cellsOf e = d.sz) (ho : Opens P e d ok) :
    Opens P t (Kd.slice e d) (fun l => l.length ≤ maxLen ∧ ∀ a ∈ l, ok a) := by
  intro H enc w base spare held fuel cs x h
  rcases DataW.trod_slice ht h with ⟨rfl, _⟩ | ⟨a, len, cap, elems, rest, n, rfl, rfl, _, _, hl, hm, he, hg, _, _⟩
  · exact ⟨[], ⟨none, 0, rfl, Nat.le_refl _, rfl, Nat.zero_le _, fun h => absurd h (by simp)⟩, Nat.zero_le _, fun a h => by cases h⟩
  · obtain ⟨l, hll, hq⟩ := list_of (fun i b => ok b ∧ ∃ c, d.K w b c ∧ c.length = d.sz ∧ ∀ j u, c[j]? = some u → w.cell? (a.add (i * d.sz + j)) = some u) len (fun i hi => by
      have g := hg i hi
      obtain ⟨y, hy⟩ : ∃ y, elems[i]? = some y := ⟨elems[i]'(by omega), List.getElem?_eq_getElem _⟩
      rw [hy] at g
      obtain ⟨c, hcc, hcd⟩ := Option.bind_eq_some_iff.1 g
      obtain ⟨b, hb, hok⟩ := ho hcd
      rw [hc] at hcc
      obtain ⟨_, hcl, hcell⟩ := World.cells?_some hcc
      refine ⟨b, hok, c, hb, hcl, fun j u hu => ?_⟩
      have hj : j < c.length := (List.getElem?_eq_some_iff.1 hu).1
      have := hcell j (by omega)
      rw [Addr.add_add] at this
      rw [this, hu])
    refine ⟨l, ⟨some a, cap, by rw [hll], by omega, rfl, by unfold maxLen at hm; omega, fun _ => ⟨a, rfl, fun j p hp => ?_⟩⟩, by omega, fun b hb => ?_⟩
    · obtain ⟨_, c, h1, h2, h3⟩ := hq j p hp
      exact ⟨c, h2, h1, h3⟩
    · obtain ⟨i, hi, rfl⟩ := List.getElem_of_mem hb
      exact (hq i _ (List.getElem?_eq_getElem hi)).1
theorem len1 {α : Type} : ∀ {l : List α}, l.length = 1 → ∃ a, l = [a]
  | [a], _ => ⟨a, rfl⟩
theorem len2 {α : Type} : ∀ {l : List α}, l.length = 2 → ∃ a b, l = [a, b]
  | [a, b], _ => ⟨a, b, rfl⟩
theorem len3 {α : Type} : ∀ {l : List α}, l.length = 3 → ∃ a b c, l = [a, b, c]
  | [a, b, c], _ => ⟨a, b, c, rfl⟩
theorem len4 {α : Type} : ∀ {l : List α}, l.length = 4 → ∃ a b c d, l = [a, b, c, d]
  | [a, b, c, d], _ => ⟨a, b, c, d, rfl⟩
theorem len5 {α : Type} : ∀ {l : List α}, l.length = 5 → ∃ a b c d e, l = [a, b, c, d, e]
  | [a, b, c, d, e], _ => ⟨a, b, c, d, e, rfl⟩
theorem opens3 : Opens Try.prog 3 (Kd.int .i64) (fun x => (Lit.int .i64 x).wf = true) := opens_int Try.underlying3
theorem opens25 : Opens Try.prog 25 (Kd.slice 3 (Kd.int .i64)) (fun x => x.length ≤ maxLen ∧ ∀ y ∈ x, (Lit.int .i64 y).wf = true) := opens_slice Try.underlying25 (by kernel_rfl) opens3
theorem openArg33 {H : Type} {enc : TypeId × Value → H} {w : World} {base : Nat} {spare : Nat → Bool} {held : Bool} {fuel : Nat} {cs : List Value} {x : DataW H × List MemPlace} (h : DataW.trod enc Try.prog w base spare held fuel 33 cs = some x) :
    ∃ (v0 : Value) (a0 : List Int) (v1 : Value) (a1 : Int) (v2 : Value) (a2 : Int) (v3 : Value) (a3 : Int) (v4 : Value) (a4 : List Int), cs = [v0, v1, v2, v3, v4] ∧ ((Kd.slice 3 (Kd.int .i64)).K w a0 [v0] ∧ (a0.length ≤ maxLen ∧ ∀ y ∈ a0, (Lit.int .i64 y).wf = true)) ∧ ((Kd.int .i64).K w a1 [v1] ∧ ((Lit.int .i64 a1).wf = true)) ∧ ((Kd.int .i64).K w a2 [v2] ∧ ((Lit.int .i64 a2).wf = true)) ∧ ((Kd.int .i64).K w a3 [v3] ∧ ((Lit.int .i64 a3).wf = true)) ∧ ((Kd.slice 3 (Kd.int .i64)).K w a4 [v4] ∧ (a4.length ≤ maxLen ∧ ∀ y ∈ a4, (Lit.int .i64 y).wf = true)) := by
  obtain ⟨xs, m, rfl, rfl, hl, hx, hf⟩ := DataW.trod_struct Try.underlying33 h
  have hl' : cs.length = 5 := hl.trans (by kernel_rfl)
  obtain ⟨v0, v1, v2, v3, v4, rfl⟩ := len5 hl'
  obtain ⟨y0, hy0⟩ : ∃ y, xs[0]? = some y := ⟨xs[0]'(by rw [hx]; decide), List.getElem?_eq_getElem _⟩
  have e0 : Try.prog.cellsOf 25 = 1 := by kernel_rfl
  have q0 : DataW.trod enc Try.prog w base spare held m 25 ((List.drop 0 [v0, v1, v2, v3, v4]).take (Try.prog.cellsOf 25)) = some y0 := (hf 0 _ rfl).trans hy0
  rw [e0] at q0
  obtain ⟨a0, g0, o0⟩ := opens25 q0
  replace g0 : (Kd.slice 3 (Kd.int .i64)).K w a0 [v0] := g0
  obtain ⟨y1, hy1⟩ : ∃ y, xs[1]? = some y := ⟨xs[1]'(by rw [hx]; decide), List.getElem?_eq_getElem _⟩
  have e1 : Try.prog.cellsOf 3 = 1 := by kernel_rfl
  have q1 : DataW.trod enc Try.prog w base spare held m 3 ((List.drop 1 [v0, v1, v2, v3, v4]).take (Try.prog.cellsOf 3)) = some y1 := (hf 1 _ rfl).trans hy1
  rw [e1] at q1
  obtain ⟨a1, g1, o1⟩ := opens3 q1
  replace g1 : (Kd.int .i64).K w a1 [v1] := g1
  obtain ⟨y2, hy2⟩ : ∃ y, xs[2]? = some y := ⟨xs[2]'(by rw [hx]; decide), List.getElem?_eq_getElem _⟩
  have e2 : Try.prog.cellsOf 3 = 1 := by kernel_rfl
  have q2 : DataW.trod enc Try.prog w base spare held m 3 ((List.drop 2 [v0, v1, v2, v3, v4]).take (Try.prog.cellsOf 3)) = some y2 := (hf 2 _ rfl).trans hy2
  rw [e2] at q2
  obtain ⟨a2, g2, o2⟩ := opens3 q2
  replace g2 : (Kd.int .i64).K w a2 [v2] := g2
  obtain ⟨y3, hy3⟩ : ∃ y, xs[3]? = some y := ⟨xs[3]'(by rw [hx]; decide), List.getElem?_eq_getElem _⟩
  have e3 : Try.prog.cellsOf 3 = 1 := by kernel_rfl
  have q3 : DataW.trod enc Try.prog w base spare held m 3 ((List.drop 3 [v0, v1, v2, v3, v4]).take (Try.prog.cellsOf 3)) = some y3 := (hf 3 _ rfl).trans hy3
  rw [e3] at q3
  obtain ⟨a3, g3, o3⟩ := opens3 q3
  replace g3 : (Kd.int .i64).K w a3 [v3] := g3
  obtain ⟨y4, hy4⟩ : ∃ y, xs[4]? = some y := ⟨xs[4]'(by rw [hx]; decide), List.getElem?_eq_getElem _⟩
  have e4 : Try.prog.cellsOf 25 = 1 := by kernel_rfl
  have q4 : DataW.trod enc Try.prog w base spare held m 25 ((List.drop 4 [v0, v1, v2, v3, v4]).take (Try.prog.cellsOf 25)) = some y4 := (hf 4 _ rfl).trans hy4
  rw [e4] at q4
  obtain ⟨a4, g4, o4⟩ := opens25 q4
  replace g4 : (Kd.slice 3 (Kd.int .i64)).K w a4 [v4] := g4
  exact ⟨v0, a0, v1, a1, v2, a2, v3, a3, v4, a4, rfl, ⟨g0, o0⟩, ⟨g1, o1⟩, ⟨g2, o2⟩, ⟨g3, o3⟩, ⟨g4, o4⟩⟩
set_option maxRecDepth 100000 in
theorem lifted (os : Os) (started : os.Started) (H : Type) (enc : TypeId × Value → H) :
    ReturnsInHanded {} Try.checked os 4 .any (Rows.fnExactManifestTextSpec.pre6 enc Try.prog Try.f4 Rows.fnExactManifestTextRow.domain false) (Rows.fnExactManifestTextSpec.post enc Try.prog Try.f4 false true false false) := by
  refine returnsInHanded_of_change_sized (C := Try.checked) own started (by kernel_rfl) Try.func4
    (ChangeSpec.witness6 (enc := enc) (C := Try.checked) false ⟨#[], #[.agg #[.slice none 0 0, .int .i64 0, .int .i64 0, .int .i64 0, .slice none 0 0]], []⟩ 8 (by kernel_rfl) (by kernel_rfl) (by kernel_rfl) (by kernel_rfl)) ?_
  intro W base args ds gs before hval0 hW hcnd hsz0 _
  have hval : ∀ (j : Nat) t v, Try.f4.params[j]? = some t → args[j]? = some v → Value.okWide Try.prog W .any base t v := hval0
  have hW' := hW
  obtain ⟨p, q, hA0, hV, rfl, hfz, hnd⟩ := hW
  have hA : DataW.TrodAll enc Try.prog W 0 (fun _ => true) true Try.f4.params.toList args.toList ds p := hA0
  rw [Try.params4] at hA hval
  obtain ⟨v0, vs0, d0, ds0, p0, q0, hargs, rfl, rfl, h0, r0⟩ := trodAll_cons hA
  obtain ⟨rfl, rfl, rfl⟩ := trodAll_nil r0
  obtain rfl : args = #[v0] := by cases args; simp_all
  obtain ⟨rfl, rfl⟩ := trodVars_none hV
  have k0 := h0
  have lt0 : ∀ x ∈ p0, x.block < W.heap.size := by obtain ⟨m, hm⟩ := k0; exact DataW.trod_lt m _ _ _ hm
  obtain ⟨cs0, rfl, _⟩ := okWide_struct Try.underlying33 (hval 0 33 v0 rfl rfl)
  obtain ⟨b0_0, a0_0, b0_1, a0_1, b0_2, a0_2, b0_3, a0_3, b0_4, a0_4, hcs0, ⟨g0_0, w0_0⟩, ⟨g0_1, w0_1⟩, ⟨g0_2, w0_2⟩, ⟨g0_3, w0_3⟩, ⟨g0_4, w0_4⟩⟩ := (by obtain ⟨fuel, hf⟩ := h0; exact openArg33 hf : ∃ (v0 : Value) (a0 : List Int) (v1 : Value) (a1 : Int) (v2 : Value) (a2 : Int) (v3 : Value) (a3 : Int) (v4 : Value) (a4 : List Int), cs0.toList = [v0, v1, v2, v3, v4] ∧ ((Kd.slice 3 (Kd.int .i64)).K W a0 [v0] ∧ (a0.length ≤ maxLen ∧ ∀ y ∈ a0, (Lit.int .i64 y).wf = true)) ∧ ((Kd.int .i64).K W a1 [v1] ∧ ((Lit.int .i64 a1).wf = true)) ∧ ((Kd.int .i64).K W a2 [v2] ∧ ((Lit.int .i64 a2).wf = true)) ∧ ((Kd.int .i64).K W a3 [v3] ∧ ((Lit.int .i64 a3).wf = true)) ∧ ((Kd.slice 3 (Kd.int .i64)).K W a4 [v4] ∧ (a4.length ≤ maxLen ∧ ∀ y ∈ a4, (Lit.int .i64 y).wf = true)))
  obtain rfl : cs0 = #[b0_0, b0_1, b0_2, b0_3, b0_4] := by cases cs0; simp_all
  obtain ⟨A0_0, c0_0, g0_0, hc0_0, hr0_0⟩ := g0_0
  injection g0_0 with g0_0 _
  subst g0_0
  injection g0_1 with g0_1 _
  subst g0_1
  injection g0_2 with g0_2 _
  subst g0_2
  injection g0_3 with g0_3 _
  subst g0_3
  obtain ⟨A0_4, c0_4, g0_4, hc0_4, hr0_4⟩ := g0_4
  injection g0_4 with g0_4 _
  subst g0_4
  clear hA0 hval0 hsz0
  obtain ⟨k, hk⟩ := Pure.FnExactManifestText a0_0 a0_1 a0_2 a0_3 a0_4 w0_0 w0_1 w0_2 w0_3 w0_4
  refine (laws_FnExactManifestText.calls k _ _ a0_0 a0_1 a0_2 a0_3 _ _ a0_4 true W hr0_0 hc0_0 hr0_4 hc0_4 hk).mono ?_
  rintro e W' ⟨he, bel⟩
  subst he
  exact ⟨_, rfl, _, _, _, [], _, [], hW', trodAll_mk1 (shut_bool Try.underlying4 _), (trodAll_cons_mk (Below.trod laidOut (by kernel_rfl) (of_decide_eq_true (by kernel_rfl)) k0 bel lt0) trodAll_mk0), rfl, bel.frame _, fun h => by cases h⟩
theorem over : Rows.fnExactManifestTextRow.holds Try.pinned (OpenSpec.ofChange Rows.fnExactManifestTextSpec) :=
  OpenClaim.holds_of_wide 4 Try.f4 rfl rfl rfl rfl rfl rfl rfl ⟨rfl, rfl, rfl, rfl, rfl⟩ rfl rfl rfl rfl rfl (by kernel_rfl) Try.func4 (by kernel_rfl)
    (of_decide_eq_true (by kernel_rfl)) (by unfold Func.isWrapper; first | (rw [if_pos (by decide +kernel)]; kernel_rfl) | (rw [if_neg (by decide +kernel)]; exact ⟨rfl, rfl⟩))
    (fun os started H enc _ => lifted os started H enc)
end Go.Proofs.Ytpnncgfmihjlkaa.fnExactManifestTextRow
namespace Go.Proofs.Ytpnncgfmihjlkaa
theorem fnExactManifestText_holds : Rows.FnExactManifestTextSaid := fnExactManifestTextRow.over
end Go.Proofs.Ytpnncgfmihjlkaa
