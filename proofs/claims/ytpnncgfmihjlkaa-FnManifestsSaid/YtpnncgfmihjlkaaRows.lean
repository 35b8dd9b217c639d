/-
  No cell of these rows narrows 'for every input' (looked for: loops, veiled, ifaces, maps, wideKeys, modest, calm, conditions, laid).
  DERIVED. THE GIVEN ROWS OF THIS SEAT. 6 by the template 'for every input the law returns true; each argument reads behind the call as it read before'; 0 by the template 'total and deterministic' (their statements: YtpnncgfmihjlkaaTotals.lean).
  GIVEN WITH THE SEED: the statements are not yours to turn. If you find one false, say at which input.
  Laid BY PROGRAM, IN A SANDBOX (cutbox-rows.mjs): the forced cells as the released guide's own fill.sh prints them over the translation 3705c5e1fca8bcf7… (all of the seat's roots in one cut). By AI agents, Wed Nov 11 2026. No macro, syntax, notation, axiom, sorry.
-/
import Derived.Test.YtpnncgfmihjlkaaChecked
import GoSem.Claim
import GoSem.ClaimJoined
import GoSem.ClaimMapViews
import Derived.JoinedTies
import Derived.KernelRfl
namespace Go.Proofs.Ytpnncgfmihjlkaa
/- THE CELL 'sum', in the pinned program and in every row, IS THE sha256 OF THE DUMP (.gsa) THAT YtpnncgfmihjlkaaProg.lean LOADS. Nothing in Lean hashes anything: it is a label: what it is worth is what the hold of that sum in a sandbox is worth. -/
noncomputable def Try.pinned : Pinned := { name := "ytpnncgfmihjlkaa", sum := "3705c5e1fca8bcf7fb0e5bdd5b48f6f5673d517c56a87d835c0f6027ada20e7d", checked := Try.checked }
namespace Rows
def none {H : Type} : Left H := { results := [], args := [] }

/-- 'laws.FnTurned': WHATEVER THE INPUT: true; the input reads as it did. -/
def fnTurnedSpec : ChangeSpec := { name := "fnTurned", fn := fun _ => fun
  | [d] => { results := [.lit (.bool true)], args := [d] }
  | _ => none }
def fnTurnedRow : OpenClaim := { program := "ytpnncgfmihjlkaa", sum := "3705c5e1fca8bcf7fb0e5bdd5b48f6f5673d517c56a87d835c0f6027ada20e7d", func := "loop.example/g00103/laws.FnTurned", spec := "fnTurned", apart := false }
def FnTurnedSaid : Prop := fnTurnedRow.holds Try.pinned (OpenSpec.ofChange fnTurnedSpec)

/-- ITS FALSE NEIGHBOUR: 'it returns false'. Refute it at one input. -/
def fnTurnedWrong : ChangeSpec := { name := "fnTurned", fn := fun _ => fun
  | [d] => { results := [.lit (.bool false)], args := [d] }
  | _ => none }
def FnTurnedWrongFalsely : Prop := fnTurnedRow.holds Try.pinned (OpenSpec.ofChange fnTurnedWrong)

/-- 'laws.FnExactManifestText': WHATEVER THE INPUT: true; the input reads as it did. -/
def fnExactManifestTextSpec : ChangeSpec := { name := "fnExactManifestText", fn := fun _ => fun
  | [d] => { results := [.lit (.bool true)], args := [d] }
  | _ => none }
def fnExactManifestTextRow : OpenClaim := { program := "ytpnncgfmihjlkaa", sum := "3705c5e1fca8bcf7fb0e5bdd5b48f6f5673d517c56a87d835c0f6027ada20e7d", func := "loop.example/g00103/laws.FnExactManifestText", spec := "fnExactManifestText", apart := false }
def FnExactManifestTextSaid : Prop := fnExactManifestTextRow.holds Try.pinned (OpenSpec.ofChange fnExactManifestTextSpec)

/-- ITS FALSE NEIGHBOUR: 'it returns false'. Refute it at one input. -/
def fnExactManifestTextWrong : ChangeSpec := { name := "fnExactManifestText", fn := fun _ => fun
  | [d] => { results := [.lit (.bool false)], args := [d] }
  | _ => none }
def FnExactManifestTextWrongFalsely : Prop := fnExactManifestTextRow.holds Try.pinned (OpenSpec.ofChange fnExactManifestTextWrong)

/-- 'laws.FnManifests': WHATEVER THE INPUT: true; the input reads as it did. -/
def fnManifestsSpec : ChangeSpec := { name := "fnManifests", fn := fun _ => fun
  | [d] => { results := [.lit (.bool true)], args := [d] }
  | _ => none }
def fnManifestsRow : OpenClaim := { program := "ytpnncgfmihjlkaa", sum := "3705c5e1fca8bcf7fb0e5bdd5b48f6f5673d517c56a87d835c0f6027ada20e7d", func := "loop.example/g00103/laws.FnManifests", spec := "fnManifests", unfollowed := true, recurses := true, apart := false }
def FnManifestsSaid : Prop := fnManifestsRow.holds Try.pinned (OpenSpec.ofChange fnManifestsSpec)

/-- ITS FALSE NEIGHBOUR: 'it returns false'. Refute it at one input. -/
def fnManifestsWrong : ChangeSpec := { name := "fnManifests", fn := fun _ => fun
  | [d] => { results := [.lit (.bool false)], args := [d] }
  | _ => none }
def FnManifestsWrongFalsely : Prop := fnManifestsRow.holds Try.pinned (OpenSpec.ofChange fnManifestsWrong)

/-- 'laws.FnBatches': WHATEVER THE INPUT: true; the input reads as it did. -/
def fnBatchesSpec : ChangeSpec := { name := "fnBatches", fn := fun _ => fun
  | [d] => { results := [.lit (.bool true)], args := [d] }
  | _ => none }
def fnBatchesRow : OpenClaim := { program := "ytpnncgfmihjlkaa", sum := "3705c5e1fca8bcf7fb0e5bdd5b48f6f5673d517c56a87d835c0f6027ada20e7d", func := "loop.example/g00103/laws.FnBatches", spec := "fnBatches", unfollowed := true, recurses := true, apart := false }
def FnBatchesSaid : Prop := fnBatchesRow.holds Try.pinned (OpenSpec.ofChange fnBatchesSpec)

/-- ITS FALSE NEIGHBOUR: 'it returns false'. Refute it at one input. -/
def fnBatchesWrong : ChangeSpec := { name := "fnBatches", fn := fun _ => fun
  | [d] => { results := [.lit (.bool false)], args := [d] }
  | _ => none }
def FnBatchesWrongFalsely : Prop := fnBatchesRow.holds Try.pinned (OpenSpec.ofChange fnBatchesWrong)

/-- 'laws.FnExactReadManifest': WHATEVER THE INPUT: true; the input reads as it did. -/
def fnExactReadManifestSpec : ChangeSpec := { name := "fnExactReadManifest", fn := fun _ => fun
  | [d] => { results := [.lit (.bool true)], args := [d] }
  | _ => none }
def fnExactReadManifestRow : OpenClaim := { program := "ytpnncgfmihjlkaa", sum := "3705c5e1fca8bcf7fb0e5bdd5b48f6f5673d517c56a87d835c0f6027ada20e7d", func := "loop.example/g00103/laws.FnExactReadManifest", spec := "fnExactReadManifest", unfollowed := true, recurses := true, apart := false }
def FnExactReadManifestSaid : Prop := fnExactReadManifestRow.holds Try.pinned (OpenSpec.ofChange fnExactReadManifestSpec)

/-- ITS FALSE NEIGHBOUR: 'it returns false'. Refute it at one input. -/
def fnExactReadManifestWrong : ChangeSpec := { name := "fnExactReadManifest", fn := fun _ => fun
  | [d] => { results := [.lit (.bool false)], args := [d] }
  | _ => none }
def FnExactReadManifestWrongFalsely : Prop := fnExactReadManifestRow.holds Try.pinned (OpenSpec.ofChange fnExactReadManifestWrong)

/-- 'laws.FnExactReadBatch': WHATEVER THE INPUT: true; the input reads as it did. -/
def fnExactReadBatchSpec : ChangeSpec := { name := "fnExactReadBatch", fn := fun _ => fun
  | [d] => { results := [.lit (.bool true)], args := [d] }
  | _ => none }
def fnExactReadBatchRow : OpenClaim := { program := "ytpnncgfmihjlkaa", sum := "3705c5e1fca8bcf7fb0e5bdd5b48f6f5673d517c56a87d835c0f6027ada20e7d", func := "loop.example/g00103/laws.FnExactReadBatch", spec := "fnExactReadBatch", unfollowed := true, recurses := true, apart := false }
def FnExactReadBatchSaid : Prop := fnExactReadBatchRow.holds Try.pinned (OpenSpec.ofChange fnExactReadBatchSpec)

/-- ITS FALSE NEIGHBOUR: 'it returns false'. Refute it at one input. -/
def fnExactReadBatchWrong : ChangeSpec := { name := "fnExactReadBatch", fn := fun _ => fun
  | [d] => { results := [.lit (.bool false)], args := [d] }
  | _ => none }
def FnExactReadBatchWrongFalsely : Prop := fnExactReadBatchRow.holds Try.pinned (OpenSpec.ofChange fnExactReadBatchWrong)

/- THE SECOND FORM. 'bulk': how many values and letters a reading holds, each counted each time it is reached (what is shared counts as often as it is met; a slice's spare places count too). A statement '..UptoSaid' is the law's where the arguments, and the package variables that the reading takes, are together of bulk at most 1048576: NARROWER than '..Said'. Prove '..Said' where nothing that the law and all that it calls make is longer than what came in: it says more and counts as full. Else prove '..UptoSaid'. A law counts once. -/
mutual
def uptoBulk {H : Type} : DataW H → Nat
  | .lit (.string bytes) => bytes.length + 1
  | .lit _ => 1
  | .nil => 1
  | .ptr d => uptoBulk d + 1
  | .slice elems spare => uptoBulkAll elems + uptoBulkAll spare + 1
  | .agg parts => uptoBulkAll parts + 1
  | .iface _ d => uptoBulk d + 1
  | .map entries => uptoBulkEntries entries + 1
  | .held _ => 1
def uptoBulkAll {H : Type} : List (DataW H) → Nat
  | [] => 0
  | d :: r => uptoBulk d + uptoBulkAll r
def uptoBulkEntries {H : Type} : List (Lit × DataW H) → Nat
  | [] => 0
  | x :: r => uptoBulkEntry x + uptoBulkEntries r
def uptoBulkEntry {H : Type} : Lit × DataW H → Nat
  | (.string bytes, d) => bytes.length + uptoBulk d + 1
  | (_, d) => uptoBulk d + 1
 end
def uptoSmall : (H : Type) → List (DataW H) → Bool := fun _ ds => decide (uptoBulkAll ds ≤ 1048576)
def OpenSpec.upto (s : _root_.Go.ChangeSpec) : _root_.Go.OpenSpec := { _root_.Go.OpenSpec.ofChange s with cond := some uptoSmall }

/-- 'laws.FnTurned', WHERE WHAT IT READS IS OF BULK AT MOST 1048576: true; the input reads as it did. -/
def fnTurnedUptoRow : OpenClaim := { program := "ytpnncgfmihjlkaa", sum := "3705c5e1fca8bcf7fb0e5bdd5b48f6f5673d517c56a87d835c0f6027ada20e7d", func := "loop.example/g00103/laws.FnTurned", spec := "fnTurned", apart := false, narrowed := true }
def FnTurnedUptoSaid : Prop := fnTurnedUptoRow.holds Try.pinned (OpenSpec.upto fnTurnedSpec)

/-- 'laws.FnExactManifestText', WHERE WHAT IT READS IS OF BULK AT MOST 1048576: true; the input reads as it did. -/
def fnExactManifestTextUptoRow : OpenClaim := { program := "ytpnncgfmihjlkaa", sum := "3705c5e1fca8bcf7fb0e5bdd5b48f6f5673d517c56a87d835c0f6027ada20e7d", func := "loop.example/g00103/laws.FnExactManifestText", spec := "fnExactManifestText", apart := false, narrowed := true }
def FnExactManifestTextUptoSaid : Prop := fnExactManifestTextUptoRow.holds Try.pinned (OpenSpec.upto fnExactManifestTextSpec)

/-- 'laws.FnManifests', WHERE WHAT IT READS IS OF BULK AT MOST 1048576: true; the input reads as it did. -/
def fnManifestsUptoRow : OpenClaim := { program := "ytpnncgfmihjlkaa", sum := "3705c5e1fca8bcf7fb0e5bdd5b48f6f5673d517c56a87d835c0f6027ada20e7d", func := "loop.example/g00103/laws.FnManifests", spec := "fnManifests", unfollowed := true, recurses := true, apart := false, narrowed := true }
def FnManifestsUptoSaid : Prop := fnManifestsUptoRow.holds Try.pinned (OpenSpec.upto fnManifestsSpec)

/-- 'laws.FnBatches', WHERE WHAT IT READS IS OF BULK AT MOST 1048576: true; the input reads as it did. -/
def fnBatchesUptoRow : OpenClaim := { program := "ytpnncgfmihjlkaa", sum := "3705c5e1fca8bcf7fb0e5bdd5b48f6f5673d517c56a87d835c0f6027ada20e7d", func := "loop.example/g00103/laws.FnBatches", spec := "fnBatches", unfollowed := true, recurses := true, apart := false, narrowed := true }
def FnBatchesUptoSaid : Prop := fnBatchesUptoRow.holds Try.pinned (OpenSpec.upto fnBatchesSpec)

/-- 'laws.FnExactReadManifest', WHERE WHAT IT READS IS OF BULK AT MOST 1048576: true; the input reads as it did. -/
def fnExactReadManifestUptoRow : OpenClaim := { program := "ytpnncgfmihjlkaa", sum := "3705c5e1fca8bcf7fb0e5bdd5b48f6f5673d517c56a87d835c0f6027ada20e7d", func := "loop.example/g00103/laws.FnExactReadManifest", spec := "fnExactReadManifest", unfollowed := true, recurses := true, apart := false, narrowed := true }
def FnExactReadManifestUptoSaid : Prop := fnExactReadManifestUptoRow.holds Try.pinned (OpenSpec.upto fnExactReadManifestSpec)

/-- 'laws.FnExactReadBatch', WHERE WHAT IT READS IS OF BULK AT MOST 1048576: true; the input reads as it did. -/
def fnExactReadBatchUptoRow : OpenClaim := { program := "ytpnncgfmihjlkaa", sum := "3705c5e1fca8bcf7fb0e5bdd5b48f6f5673d517c56a87d835c0f6027ada20e7d", func := "loop.example/g00103/laws.FnExactReadBatch", spec := "fnExactReadBatch", unfollowed := true, recurses := true, apart := false, narrowed := true }
def FnExactReadBatchUptoSaid : Prop := fnExactReadBatchUptoRow.holds Try.pinned (OpenSpec.upto fnExactReadBatchSpec)

end Rows
end Go.Proofs.Ytpnncgfmihjlkaa
