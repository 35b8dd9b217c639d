/-
  No cell of these rows narrows 'for every input' (looked for: loops, veiled, ifaces, maps, wideKeys, modest, calm, conditions, laid).
  DERIVED. THE GIVEN ROWS OF THIS SEAT. 12 by the template 'for every input the law returns true; each argument reads behind the call as it read before'; 0 by the template 'total and deterministic' (their statements: YtmdenlpaahlkbaaTotals.lean).
  GIVEN WITH THE SEED: the statements are not yours to turn. If you find one false, say at which input.
  Laid BY PROGRAM, IN A SANDBOX (cutbox-rows.mjs): the forced cells as the released guide's own fill.sh prints them over the translation 598698f1f32a6887… (all of the seat's roots in one cut). By AI agents, Wed Nov 11 2026. No macro, syntax, notation, axiom, sorry.
-/
import Derived.Test.YtmdenlpaahlkbaaChecked
import GoSem.Claim
import GoSem.ClaimJoined
import GoSem.ClaimMapViews
import Derived.JoinedTies
import Derived.KernelRfl
namespace Go.Proofs.Ytmdenlpaahlkbaa
/- THE CELL 'sum', in the pinned program and in every row, IS THE sha256 OF THE DUMP (.gsa) THAT YtmdenlpaahlkbaaProg.lean LOADS. Nothing in Lean hashes anything: it is a label: what it is worth is what the hold of that sum in a sandbox is worth. -/
noncomputable def Try.pinned : Pinned := { name := "ytmdenlpaahlkbaa", sum := "598698f1f32a6887cf5db4fae22501c2eaebbcb07bd769465dea74f7a097db0c", checked := Try.checked }
namespace Rows
def none {H : Type} : Left H := { results := [], args := [] }

/-- 'laws.FnExactReadVar': WHATEVER THE INPUT: true; the input reads as it did. -/
def fnExactReadVarSpec : ChangeSpec := { name := "fnExactReadVar", fn := fun _ => fun
  | [d1, d2] => { results := [.lit (.bool true)], args := [d1, d2] }
  | _ => none }
def fnExactReadVarRow : OpenClaim := { program := "ytmdenlpaahlkbaa", sum := "598698f1f32a6887cf5db4fae22501c2eaebbcb07bd769465dea74f7a097db0c", func := "loop.example/g00103/laws.FnExactReadVar", spec := "fnExactReadVar", apart := false }
def FnExactReadVarSaid : Prop := fnExactReadVarRow.holds Try.pinned (OpenSpec.ofChange fnExactReadVarSpec)

/-- ITS FALSE NEIGHBOUR: 'it returns false'. Refute it at one input. -/
def fnExactReadVarWrong : ChangeSpec := { name := "fnExactReadVar", fn := fun _ => fun
  | [d1, d2] => { results := [.lit (.bool false)], args := [d1, d2] }
  | _ => none }
def FnExactReadVarWrongFalsely : Prop := fnExactReadVarRow.holds Try.pinned (OpenSpec.ofChange fnExactReadVarWrong)

/-- 'laws.FnExactFrame': WHATEVER THE INPUT: true; the input reads as it did. -/
def fnExactFrameSpec : ChangeSpec := { name := "fnExactFrame", fn := fun _ => fun
  | [d] => { results := [.lit (.bool true)], args := [d] }
  | _ => none }
def fnExactFrameRow : OpenClaim := { program := "ytmdenlpaahlkbaa", sum := "598698f1f32a6887cf5db4fae22501c2eaebbcb07bd769465dea74f7a097db0c", func := "loop.example/g00103/laws.FnExactFrame", spec := "fnExactFrame", apart := false }
def FnExactFrameSaid : Prop := fnExactFrameRow.holds Try.pinned (OpenSpec.ofChange fnExactFrameSpec)

/-- ITS FALSE NEIGHBOUR: 'it returns false'. Refute it at one input. -/
def fnExactFrameWrong : ChangeSpec := { name := "fnExactFrame", fn := fun _ => fun
  | [d] => { results := [.lit (.bool false)], args := [d] }
  | _ => none }
def FnExactFrameWrongFalsely : Prop := fnExactFrameRow.holds Try.pinned (OpenSpec.ofChange fnExactFrameWrong)

/-- 'laws.FnExactReadShort': WHATEVER THE INPUT: true; the input reads as it did. -/
def fnExactReadShortSpec : ChangeSpec := { name := "fnExactReadShort", fn := fun _ => fun
  | [d1, d2] => { results := [.lit (.bool true)], args := [d1, d2] }
  | _ => none }
def fnExactReadShortRow : OpenClaim := { program := "ytmdenlpaahlkbaa", sum := "598698f1f32a6887cf5db4fae22501c2eaebbcb07bd769465dea74f7a097db0c", func := "loop.example/g00103/laws.FnExactReadShort", spec := "fnExactReadShort", apart := false }
def FnExactReadShortSaid : Prop := fnExactReadShortRow.holds Try.pinned (OpenSpec.ofChange fnExactReadShortSpec)

/-- ITS FALSE NEIGHBOUR: 'it returns false'. Refute it at one input. -/
def fnExactReadShortWrong : ChangeSpec := { name := "fnExactReadShort", fn := fun _ => fun
  | [d1, d2] => { results := [.lit (.bool false)], args := [d1, d2] }
  | _ => none }
def FnExactReadShortWrongFalsely : Prop := fnExactReadShortRow.holds Try.pinned (OpenSpec.ofChange fnExactReadShortWrong)

/-- 'laws.FnMaps': WHATEVER THE INPUT: true; the input reads as it did. -/
def fnMapsSpec : ChangeSpec := { name := "fnMaps", fn := fun _ => fun
  | [d] => { results := [.lit (.bool true)], args := [d] }
  | _ => none }
def fnMapsRow : OpenClaim := { program := "ytmdenlpaahlkbaa", sum := "598698f1f32a6887cf5db4fae22501c2eaebbcb07bd769465dea74f7a097db0c", func := "loop.example/g00103/laws.FnMaps", spec := "fnMaps", inPlace := ["internal/bytealg.abigen_runtime_cmpstring", "slices.overlaps[loop.example/g00103/impl.Pair]"], unfollowed := true, recurses := true, apart := false }
def FnMapsSaid : Prop := fnMapsRow.holds Try.pinned (OpenSpec.ofChange fnMapsSpec)

/-- ITS FALSE NEIGHBOUR: 'it returns false'. Refute it at one input. -/
def fnMapsWrong : ChangeSpec := { name := "fnMaps", fn := fun _ => fun
  | [d] => { results := [.lit (.bool false)], args := [d] }
  | _ => none }
def FnMapsWrongFalsely : Prop := fnMapsRow.holds Try.pinned (OpenSpec.ofChange fnMapsWrong)

/-- 'laws.FnExactMapOk': WHATEVER THE INPUT: true; the input reads as it did. -/
def fnExactMapOkSpec : ChangeSpec := { name := "fnExactMapOk", fn := fun _ => fun
  | [d] => { results := [.lit (.bool true)], args := [d] }
  | _ => none }
def fnExactMapOkRow : OpenClaim := { program := "ytmdenlpaahlkbaa", sum := "598698f1f32a6887cf5db4fae22501c2eaebbcb07bd769465dea74f7a097db0c", func := "loop.example/g00103/laws.FnExactMapOk", spec := "fnExactMapOk", apart := false }
def FnExactMapOkSaid : Prop := fnExactMapOkRow.holds Try.pinned (OpenSpec.ofChange fnExactMapOkSpec)

/-- ITS FALSE NEIGHBOUR: 'it returns false'. Refute it at one input. -/
def fnExactMapOkWrong : ChangeSpec := { name := "fnExactMapOk", fn := fun _ => fun
  | [d] => { results := [.lit (.bool false)], args := [d] }
  | _ => none }
def FnExactMapOkWrongFalsely : Prop := fnExactMapOkRow.holds Try.pinned (OpenSpec.ofChange fnExactMapOkWrong)

/-- 'laws.FnTurned': WHATEVER THE INPUT: true; the input reads as it did. -/
def fnTurnedSpec : ChangeSpec := { name := "fnTurned", fn := fun _ => fun
  | [d] => { results := [.lit (.bool true)], args := [d] }
  | _ => none }
def fnTurnedRow : OpenClaim := { program := "ytmdenlpaahlkbaa", sum := "598698f1f32a6887cf5db4fae22501c2eaebbcb07bd769465dea74f7a097db0c", func := "loop.example/g00103/laws.FnTurned", spec := "fnTurned", apart := false }
def FnTurnedSaid : Prop := fnTurnedRow.holds Try.pinned (OpenSpec.ofChange fnTurnedSpec)

/-- ITS FALSE NEIGHBOUR: 'it returns false'. Refute it at one input. -/
def fnTurnedWrong : ChangeSpec := { name := "fnTurned", fn := fun _ => fun
  | [d] => { results := [.lit (.bool false)], args := [d] }
  | _ => none }
def FnTurnedWrongFalsely : Prop := fnTurnedRow.holds Try.pinned (OpenSpec.ofChange fnTurnedWrong)

/-- 'laws.FnExactDirOk': WHATEVER THE INPUT: true; the input reads as it did. -/
def fnExactDirOkSpec : ChangeSpec := { name := "fnExactDirOk", fn := fun _ => fun
  | [d] => { results := [.lit (.bool true)], args := [d] }
  | _ => none }
def fnExactDirOkRow : OpenClaim := { program := "ytmdenlpaahlkbaa", sum := "598698f1f32a6887cf5db4fae22501c2eaebbcb07bd769465dea74f7a097db0c", func := "loop.example/g00103/laws.FnExactDirOk", spec := "fnExactDirOk", apart := false }
def FnExactDirOkSaid : Prop := fnExactDirOkRow.holds Try.pinned (OpenSpec.ofChange fnExactDirOkSpec)

/-- ITS FALSE NEIGHBOUR: 'it returns false'. Refute it at one input. -/
def fnExactDirOkWrong : ChangeSpec := { name := "fnExactDirOk", fn := fun _ => fun
  | [d] => { results := [.lit (.bool false)], args := [d] }
  | _ => none }
def FnExactDirOkWrongFalsely : Prop := fnExactDirOkRow.holds Try.pinned (OpenSpec.ofChange fnExactDirOkWrong)

/-- 'laws.FnExactManifestOk': WHATEVER THE INPUT: true; the input reads as it did. -/
def fnExactManifestOkSpec : ChangeSpec := { name := "fnExactManifestOk", fn := fun _ => fun
  | [d] => { results := [.lit (.bool true)], args := [d] }
  | _ => none }
def fnExactManifestOkRow : OpenClaim := { program := "ytmdenlpaahlkbaa", sum := "598698f1f32a6887cf5db4fae22501c2eaebbcb07bd769465dea74f7a097db0c", func := "loop.example/g00103/laws.FnExactManifestOk", spec := "fnExactManifestOk", apart := false }
def FnExactManifestOkSaid : Prop := fnExactManifestOkRow.holds Try.pinned (OpenSpec.ofChange fnExactManifestOkSpec)

/-- ITS FALSE NEIGHBOUR: 'it returns false'. Refute it at one input. -/
def fnExactManifestOkWrong : ChangeSpec := { name := "fnExactManifestOk", fn := fun _ => fun
  | [d] => { results := [.lit (.bool false)], args := [d] }
  | _ => none }
def FnExactManifestOkWrongFalsely : Prop := fnExactManifestOkRow.holds Try.pinned (OpenSpec.ofChange fnExactManifestOkWrong)

/-- 'laws.FnExactDiskOk': WHATEVER THE INPUT: true; the input reads as it did. -/
def fnExactDiskOkSpec : ChangeSpec := { name := "fnExactDiskOk", fn := fun _ => fun
  | [d] => { results := [.lit (.bool true)], args := [d] }
  | _ => none }
def fnExactDiskOkRow : OpenClaim := { program := "ytmdenlpaahlkbaa", sum := "598698f1f32a6887cf5db4fae22501c2eaebbcb07bd769465dea74f7a097db0c", func := "loop.example/g00103/laws.FnExactDiskOk", spec := "fnExactDiskOk", apart := false }
def FnExactDiskOkSaid : Prop := fnExactDiskOkRow.holds Try.pinned (OpenSpec.ofChange fnExactDiskOkSpec)

/-- ITS FALSE NEIGHBOUR: 'it returns false'. Refute it at one input. -/
def fnExactDiskOkWrong : ChangeSpec := { name := "fnExactDiskOk", fn := fun _ => fun
  | [d] => { results := [.lit (.bool false)], args := [d] }
  | _ => none }
def FnExactDiskOkWrongFalsely : Prop := fnExactDiskOkRow.holds Try.pinned (OpenSpec.ofChange fnExactDiskOkWrong)

/-- 'laws.FnExactBatchOk': WHATEVER THE INPUT: true; the input reads as it did. -/
def fnExactBatchOkSpec : ChangeSpec := { name := "fnExactBatchOk", fn := fun _ => fun
  | [d] => { results := [.lit (.bool true)], args := [d] }
  | _ => none }
def fnExactBatchOkRow : OpenClaim := { program := "ytmdenlpaahlkbaa", sum := "598698f1f32a6887cf5db4fae22501c2eaebbcb07bd769465dea74f7a097db0c", func := "loop.example/g00103/laws.FnExactBatchOk", spec := "fnExactBatchOk", apart := false }
def FnExactBatchOkSaid : Prop := fnExactBatchOkRow.holds Try.pinned (OpenSpec.ofChange fnExactBatchOkSpec)

/-- ITS FALSE NEIGHBOUR: 'it returns false'. Refute it at one input. -/
def fnExactBatchOkWrong : ChangeSpec := { name := "fnExactBatchOk", fn := fun _ => fun
  | [d] => { results := [.lit (.bool false)], args := [d] }
  | _ => none }
def FnExactBatchOkWrongFalsely : Prop := fnExactBatchOkRow.holds Try.pinned (OpenSpec.ofChange fnExactBatchOkWrong)

/-- 'laws.FnExactMapGet': WHATEVER THE INPUT: true; the input reads as it did. -/
def fnExactMapGetSpec : ChangeSpec := { name := "fnExactMapGet", fn := fun _ => fun
  | [d1, d2] => { results := [.lit (.bool true)], args := [d1, d2] }
  | _ => none }
def fnExactMapGetRow : OpenClaim := { program := "ytmdenlpaahlkbaa", sum := "598698f1f32a6887cf5db4fae22501c2eaebbcb07bd769465dea74f7a097db0c", func := "loop.example/g00103/laws.FnExactMapGet", spec := "fnExactMapGet", inPlace := ["internal/bytealg.abigen_runtime_cmpstring"], unfollowed := true, recurses := true, apart := false }
def FnExactMapGetSaid : Prop := fnExactMapGetRow.holds Try.pinned (OpenSpec.ofChange fnExactMapGetSpec)

/-- ITS FALSE NEIGHBOUR: 'it returns false'. Refute it at one input. -/
def fnExactMapGetWrong : ChangeSpec := { name := "fnExactMapGet", fn := fun _ => fun
  | [d1, d2] => { results := [.lit (.bool false)], args := [d1, d2] }
  | _ => none }
def FnExactMapGetWrongFalsely : Prop := fnExactMapGetRow.holds Try.pinned (OpenSpec.ofChange fnExactMapGetWrong)

/-- 'laws.FnFrames': WHATEVER THE INPUT: true; the input reads as it did. -/
def fnFramesSpec : ChangeSpec := { name := "fnFrames", fn := fun _ => fun
  | [d] => { results := [.lit (.bool true)], args := [d] }
  | _ => none }
def fnFramesRow : OpenClaim := { program := "ytmdenlpaahlkbaa", sum := "598698f1f32a6887cf5db4fae22501c2eaebbcb07bd769465dea74f7a097db0c", func := "loop.example/g00103/laws.FnFrames", spec := "fnFrames", apart := false }
def FnFramesSaid : Prop := fnFramesRow.holds Try.pinned (OpenSpec.ofChange fnFramesSpec)

/-- ITS FALSE NEIGHBOUR: 'it returns false'. Refute it at one input. -/
def fnFramesWrong : ChangeSpec := { name := "fnFrames", fn := fun _ => fun
  | [d] => { results := [.lit (.bool false)], args := [d] }
  | _ => none }
def FnFramesWrongFalsely : Prop := fnFramesRow.holds Try.pinned (OpenSpec.ofChange fnFramesWrong)

/- THE SECOND FORM. 'bulk': how many values and letters a reading holds, each counted each time it is reached (what is shared counts as often as it is met; a slice's spare places count too). A statement '..UptoSaid' is the law's where the arguments, and the package variables that the reading takes, are together of bulk at most 1048576: NARROWER than '..Said'. Prove '..Said' where nothing that the law and all that it calls make is longer than what came in: it says more and counts as full. Else prove '..UptoSaid'. A law counts once. -/
mutual
def uptoBulk {H : Type} : DataW H → Nat
  | .lit (.string bytes) => bytes.length + 1
  | .lit _ => 1
  | .nil => 1
  | .ptr d => uptoBulk d + 1
  | .slice elems spare => uptoBulkAll elems + uptoBulkAll spare + 1
  | .agg parts => uptoBulkAll parts + 1
  | .iface _ d => uptoBulk d + 1
  | .map entries => uptoBulkEntries entries + 1
  | .held _ => 1
def uptoBulkAll {H : Type} : List (DataW H) → Nat
  | [] => 0
  | d :: r => uptoBulk d + uptoBulkAll r
def uptoBulkEntries {H : Type} : List (Lit × DataW H) → Nat
  | [] => 0
  | x :: r => uptoBulkEntry x + uptoBulkEntries r
def uptoBulkEntry {H : Type} : Lit × DataW H → Nat
  | (.string bytes, d) => bytes.length + uptoBulk d + 1
  | (_, d) => uptoBulk d + 1
 end
def uptoSmall : (H : Type) → List (DataW H) → Bool := fun _ ds => decide (uptoBulkAll ds ≤ 1048576)
def OpenSpec.upto (s : _root_.Go.ChangeSpec) : _root_.Go.OpenSpec := { _root_.Go.OpenSpec.ofChange s with cond := some uptoSmall }

/-- 'laws.FnExactReadVar', WHERE WHAT IT READS IS OF BULK AT MOST 1048576: true; the input reads as it did. -/
def fnExactReadVarUptoRow : OpenClaim := { program := "ytmdenlpaahlkbaa", sum := "598698f1f32a6887cf5db4fae22501c2eaebbcb07bd769465dea74f7a097db0c", func := "loop.example/g00103/laws.FnExactReadVar", spec := "fnExactReadVar", apart := false, narrowed := true }
def FnExactReadVarUptoSaid : Prop := fnExactReadVarUptoRow.holds Try.pinned (OpenSpec.upto fnExactReadVarSpec)

/-- 'laws.FnExactFrame', WHERE WHAT IT READS IS OF BULK AT MOST 1048576: true; the input reads as it did. -/
def fnExactFrameUptoRow : OpenClaim := { program := "ytmdenlpaahlkbaa", sum := "598698f1f32a6887cf5db4fae22501c2eaebbcb07bd769465dea74f7a097db0c", func := "loop.example/g00103/laws.FnExactFrame", spec := "fnExactFrame", apart := false, narrowed := true }
def FnExactFrameUptoSaid : Prop := fnExactFrameUptoRow.holds Try.pinned (OpenSpec.upto fnExactFrameSpec)

/-- 'laws.FnExactReadShort', WHERE WHAT IT READS IS OF BULK AT MOST 1048576: true; the input reads as it did. -/
def fnExactReadShortUptoRow : OpenClaim := { program := "ytmdenlpaahlkbaa", sum := "598698f1f32a6887cf5db4fae22501c2eaebbcb07bd769465dea74f7a097db0c", func := "loop.example/g00103/laws.FnExactReadShort", spec := "fnExactReadShort", apart := false, narrowed := true }
def FnExactReadShortUptoSaid : Prop := fnExactReadShortUptoRow.holds Try.pinned (OpenSpec.upto fnExactReadShortSpec)

/-- 'laws.FnMaps', WHERE WHAT IT READS IS OF BULK AT MOST 1048576: true; the input reads as it did. -/
def fnMapsUptoRow : OpenClaim := { program := "ytmdenlpaahlkbaa", sum := "598698f1f32a6887cf5db4fae22501c2eaebbcb07bd769465dea74f7a097db0c", func := "loop.example/g00103/laws.FnMaps", spec := "fnMaps", inPlace := ["internal/bytealg.abigen_runtime_cmpstring", "slices.overlaps[loop.example/g00103/impl.Pair]"], unfollowed := true, recurses := true, apart := false, narrowed := true }
def FnMapsUptoSaid : Prop := fnMapsUptoRow.holds Try.pinned (OpenSpec.upto fnMapsSpec)

/-- 'laws.FnExactMapOk', WHERE WHAT IT READS IS OF BULK AT MOST 1048576: true; the input reads as it did. -/
def fnExactMapOkUptoRow : OpenClaim := { program := "ytmdenlpaahlkbaa", sum := "598698f1f32a6887cf5db4fae22501c2eaebbcb07bd769465dea74f7a097db0c", func := "loop.example/g00103/laws.FnExactMapOk", spec := "fnExactMapOk", apart := false, narrowed := true }
def FnExactMapOkUptoSaid : Prop := fnExactMapOkUptoRow.holds Try.pinned (OpenSpec.upto fnExactMapOkSpec)

/-- 'laws.FnTurned', WHERE WHAT IT READS IS OF BULK AT MOST 1048576: true; the input reads as it did. -/
def fnTurnedUptoRow : OpenClaim := { program := "ytmdenlpaahlkbaa", sum := "598698f1f32a6887cf5db4fae22501c2eaebbcb07bd769465dea74f7a097db0c", func := "loop.example/g00103/laws.FnTurned", spec := "fnTurned", apart := false, narrowed := true }
def FnTurnedUptoSaid : Prop := fnTurnedUptoRow.holds Try.pinned (OpenSpec.upto fnTurnedSpec)

/-- 'laws.FnExactDirOk', WHERE WHAT IT READS IS OF BULK AT MOST 1048576: true; the input reads as it did. -/
def fnExactDirOkUptoRow : OpenClaim := { program := "ytmdenlpaahlkbaa", sum := "598698f1f32a6887cf5db4fae22501c2eaebbcb07bd769465dea74f7a097db0c", func := "loop.example/g00103/laws.FnExactDirOk", spec := "fnExactDirOk", apart := false, narrowed := true }
def FnExactDirOkUptoSaid : Prop := fnExactDirOkUptoRow.holds Try.pinned (OpenSpec.upto fnExactDirOkSpec)

/-- 'laws.FnExactManifestOk', WHERE WHAT IT READS IS OF BULK AT MOST 1048576: true; the input reads as it did. -/
def fnExactManifestOkUptoRow : OpenClaim := { program := "ytmdenlpaahlkbaa", sum := "598698f1f32a6887cf5db4fae22501c2eaebbcb07bd769465dea74f7a097db0c", func := "loop.example/g00103/laws.FnExactManifestOk", spec := "fnExactManifestOk", apart := false, narrowed := true }
def FnExactManifestOkUptoSaid : Prop := fnExactManifestOkUptoRow.holds Try.pinned (OpenSpec.upto fnExactManifestOkSpec)

/-- 'laws.FnExactDiskOk', WHERE WHAT IT READS IS OF BULK AT MOST 1048576: true; the input reads as it did. -/
def fnExactDiskOkUptoRow : OpenClaim := { program := "ytmdenlpaahlkbaa", sum := "598698f1f32a6887cf5db4fae22501c2eaebbcb07bd769465dea74f7a097db0c", func := "loop.example/g00103/laws.FnExactDiskOk", spec := "fnExactDiskOk", apart := false, narrowed := true }
def FnExactDiskOkUptoSaid : Prop := fnExactDiskOkUptoRow.holds Try.pinned (OpenSpec.upto fnExactDiskOkSpec)

/-- 'laws.FnExactBatchOk', WHERE WHAT IT READS IS OF BULK AT MOST 1048576: true; the input reads as it did. -/
def fnExactBatchOkUptoRow : OpenClaim := { program := "ytmdenlpaahlkbaa", sum := "598698f1f32a6887cf5db4fae22501c2eaebbcb07bd769465dea74f7a097db0c", func := "loop.example/g00103/laws.FnExactBatchOk", spec := "fnExactBatchOk", apart := false, narrowed := true }
def FnExactBatchOkUptoSaid : Prop := fnExactBatchOkUptoRow.holds Try.pinned (OpenSpec.upto fnExactBatchOkSpec)

/-- 'laws.FnExactMapGet', WHERE WHAT IT READS IS OF BULK AT MOST 1048576: true; the input reads as it did. -/
def fnExactMapGetUptoRow : OpenClaim := { program := "ytmdenlpaahlkbaa", sum := "598698f1f32a6887cf5db4fae22501c2eaebbcb07bd769465dea74f7a097db0c", func := "loop.example/g00103/laws.FnExactMapGet", spec := "fnExactMapGet", inPlace := ["internal/bytealg.abigen_runtime_cmpstring"], unfollowed := true, recurses := true, apart := false, narrowed := true }
def FnExactMapGetUptoSaid : Prop := fnExactMapGetUptoRow.holds Try.pinned (OpenSpec.upto fnExactMapGetSpec)

/-- 'laws.FnFrames', WHERE WHAT IT READS IS OF BULK AT MOST 1048576: true; the input reads as it did. -/
def fnFramesUptoRow : OpenClaim := { program := "ytmdenlpaahlkbaa", sum := "598698f1f32a6887cf5db4fae22501c2eaebbcb07bd769465dea74f7a097db0c", func := "loop.example/g00103/laws.FnFrames", spec := "fnFrames", apart := false, narrowed := true }
def FnFramesUptoSaid : Prop := fnFramesUptoRow.holds Try.pinned (OpenSpec.upto fnFramesSpec)

end Rows
end Go.Proofs.Ytmdenlpaahlkbaa
