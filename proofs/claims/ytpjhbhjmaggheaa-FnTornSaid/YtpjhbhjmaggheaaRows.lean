/-
  No cell of these rows narrows 'for every input' (looked for: loops, veiled, ifaces, maps, wideKeys, modest, calm, conditions, laid).
  DERIVED. THE GIVEN ROWS OF THIS SEAT. 8 by the template 'for every input the law returns true; each argument reads behind the call as it read before'; 0 by the template 'total and deterministic' (their statements: YtpjhbhjmaggheaaTotals.lean).
  GIVEN WITH THE SEED: the statements are not yours to turn. If you find one false, say at which input.
  Laid BY PROGRAM, IN A SANDBOX (cutbox-rows.mjs): the forced cells as the released guide's own fill.sh prints them over the translation 37add63b1dc4fe51… (all of the seat's roots in one cut). By AI agents, Wed Nov 11 2026. No macro, syntax, notation, axiom, sorry.
-/
import Derived.Test.YtpjhbhjmaggheaaChecked
import GoSem.Claim
import GoSem.ClaimJoined
import GoSem.ClaimMapViews
import Derived.JoinedTies
import Derived.KernelRfl
namespace Go.Proofs.Ytpjhbhjmaggheaa
/- THE CELL 'sum', in the pinned program and in every row, IS THE sha256 OF THE DUMP (.gsa) THAT YtpjhbhjmaggheaaProg.lean LOADS. Nothing in Lean hashes anything: it is a label: what it is worth is what the hold of that sum in a sandbox is worth. -/
noncomputable def Try.pinned : Pinned := { name := "ytpjhbhjmaggheaa", sum := "37add63b1dc4fe51501216dac5b842329f579927c9b5d4340e97bfc8e3f7396c", checked := Try.checked }
namespace Rows
def none {H : Type} : Left H := { results := [], args := [] }

/-- 'laws.FnExactCutRaws': WHATEVER THE INPUT: true; the input reads as it did. -/
def fnExactCutRawsSpec : ChangeSpec := { name := "fnExactCutRaws", fn := fun _ => fun
  | [d1, d2, d3, d4] => { results := [.lit (.bool true)], args := [d1, d2, d3, d4] }
  | _ => none }
def fnExactCutRawsRow : OpenClaim := { program := "ytpjhbhjmaggheaa", sum := "37add63b1dc4fe51501216dac5b842329f579927c9b5d4340e97bfc8e3f7396c", func := "loop.example/g00103/laws.FnExactCutRaws", spec := "fnExactCutRaws", inPlace := ["internal/bytealg.abigen_runtime_cmpstring", "slices.overlaps[loop.example/g00103/impl.File]"], unfollowed := true, recurses := true, apart := false }
def FnExactCutRawsSaid : Prop := fnExactCutRawsRow.holds Try.pinned (OpenSpec.ofChange fnExactCutRawsSpec)

/-- ITS FALSE NEIGHBOUR: 'it returns false'. Refute it at one input. -/
def fnExactCutRawsWrong : ChangeSpec := { name := "fnExactCutRaws", fn := fun _ => fun
  | [d1, d2, d3, d4] => { results := [.lit (.bool false)], args := [d1, d2, d3, d4] }
  | _ => none }
def FnExactCutRawsWrongFalsely : Prop := fnExactCutRawsRow.holds Try.pinned (OpenSpec.ofChange fnExactCutRawsWrong)

/-- 'laws.FnMaps': WHATEVER THE INPUT: true; the input reads as it did. -/
def fnMapsSpec : ChangeSpec := { name := "fnMaps", fn := fun _ => fun
  | [d] => { results := [.lit (.bool true)], args := [d] }
  | _ => none }
def fnMapsRow : OpenClaim := { program := "ytpjhbhjmaggheaa", sum := "37add63b1dc4fe51501216dac5b842329f579927c9b5d4340e97bfc8e3f7396c", func := "loop.example/g00103/laws.FnMaps", spec := "fnMaps", inPlace := ["internal/bytealg.abigen_runtime_cmpstring", "slices.overlaps[loop.example/g00103/impl.Pair]"], unfollowed := true, recurses := true, apart := false }
def FnMapsSaid : Prop := fnMapsRow.holds Try.pinned (OpenSpec.ofChange fnMapsSpec)

/-- ITS FALSE NEIGHBOUR: 'it returns false'. Refute it at one input. -/
def fnMapsWrong : ChangeSpec := { name := "fnMaps", fn := fun _ => fun
  | [d] => { results := [.lit (.bool false)], args := [d] }
  | _ => none }
def FnMapsWrongFalsely : Prop := fnMapsRow.holds Try.pinned (OpenSpec.ofChange fnMapsWrong)

/-- 'laws.FnTorn': WHATEVER THE INPUT: true; the input reads as it did. -/
def fnTornSpec : ChangeSpec := { name := "fnTorn", fn := fun _ => fun
  | [d] => { results := [.lit (.bool true)], args := [d] }
  | _ => none }
def fnTornRow : OpenClaim := { program := "ytpjhbhjmaggheaa", sum := "37add63b1dc4fe51501216dac5b842329f579927c9b5d4340e97bfc8e3f7396c", func := "loop.example/g00103/laws.FnTorn", spec := "fnTorn", inPlace := ["internal/bytealg.abigen_runtime_cmpstring", "slices.overlaps[loop.example/g00103/impl.File]"], unfollowed := true, recurses := true, apart := false }
def FnTornSaid : Prop := fnTornRow.holds Try.pinned (OpenSpec.ofChange fnTornSpec)

/-- ITS FALSE NEIGHBOUR: 'it returns false'. Refute it at one input. -/
def fnTornWrong : ChangeSpec := { name := "fnTorn", fn := fun _ => fun
  | [d] => { results := [.lit (.bool false)], args := [d] }
  | _ => none }
def FnTornWrongFalsely : Prop := fnTornRow.holds Try.pinned (OpenSpec.ofChange fnTornWrong)

/-- 'laws.FnExactPutRaw': WHATEVER THE INPUT: true; the input reads as it did. -/
def fnExactPutRawSpec : ChangeSpec := { name := "fnExactPutRaw", fn := fun _ => fun
  | [d1, d2] => { results := [.lit (.bool true)], args := [d1, d2] }
  | _ => none }
def fnExactPutRawRow : OpenClaim := { program := "ytpjhbhjmaggheaa", sum := "37add63b1dc4fe51501216dac5b842329f579927c9b5d4340e97bfc8e3f7396c", func := "loop.example/g00103/laws.FnExactPutRaw", spec := "fnExactPutRaw", inPlace := ["internal/bytealg.abigen_runtime_cmpstring", "slices.overlaps[loop.example/g00103/impl.File]"], unfollowed := true, recurses := true, apart := false }
def FnExactPutRawSaid : Prop := fnExactPutRawRow.holds Try.pinned (OpenSpec.ofChange fnExactPutRawSpec)

/-- ITS FALSE NEIGHBOUR: 'it returns false'. Refute it at one input. -/
def fnExactPutRawWrong : ChangeSpec := { name := "fnExactPutRaw", fn := fun _ => fun
  | [d1, d2] => { results := [.lit (.bool false)], args := [d1, d2] }
  | _ => none }
def FnExactPutRawWrongFalsely : Prop := fnExactPutRawRow.holds Try.pinned (OpenSpec.ofChange fnExactPutRawWrong)

/-- 'laws.FnRaws': WHATEVER THE INPUT: true; the input reads as it did. -/
def fnRawsSpec : ChangeSpec := { name := "fnRaws", fn := fun _ => fun
  | [d] => { results := [.lit (.bool true)], args := [d] }
  | _ => none }
def fnRawsRow : OpenClaim := { program := "ytpjhbhjmaggheaa", sum := "37add63b1dc4fe51501216dac5b842329f579927c9b5d4340e97bfc8e3f7396c", func := "loop.example/g00103/laws.FnRaws", spec := "fnRaws", inPlace := ["internal/bytealg.abigen_runtime_cmpstring", "slices.overlaps[loop.example/g00103/impl.File]"], unfollowed := true, recurses := true, apart := false }
def FnRawsSaid : Prop := fnRawsRow.holds Try.pinned (OpenSpec.ofChange fnRawsSpec)

/-- ITS FALSE NEIGHBOUR: 'it returns false'. Refute it at one input. -/
def fnRawsWrong : ChangeSpec := { name := "fnRaws", fn := fun _ => fun
  | [d] => { results := [.lit (.bool false)], args := [d] }
  | _ => none }
def FnRawsWrongFalsely : Prop := fnRawsRow.holds Try.pinned (OpenSpec.ofChange fnRawsWrong)

/-- 'laws.FnExactMapDo': WHATEVER THE INPUT: true; the input reads as it did. -/
def fnExactMapDoSpec : ChangeSpec := { name := "fnExactMapDo", fn := fun _ => fun
  | [d1, d2] => { results := [.lit (.bool true)], args := [d1, d2] }
  | _ => none }
def fnExactMapDoRow : OpenClaim := { program := "ytpjhbhjmaggheaa", sum := "37add63b1dc4fe51501216dac5b842329f579927c9b5d4340e97bfc8e3f7396c", func := "loop.example/g00103/laws.FnExactMapDo", spec := "fnExactMapDo", inPlace := ["internal/bytealg.abigen_runtime_cmpstring", "slices.overlaps[loop.example/g00103/impl.Pair]"], unfollowed := true, recurses := true, apart := false }
def FnExactMapDoSaid : Prop := fnExactMapDoRow.holds Try.pinned (OpenSpec.ofChange fnExactMapDoSpec)

/-- ITS FALSE NEIGHBOUR: 'it returns false'. Refute it at one input. -/
def fnExactMapDoWrong : ChangeSpec := { name := "fnExactMapDo", fn := fun _ => fun
  | [d1, d2] => { results := [.lit (.bool false)], args := [d1, d2] }
  | _ => none }
def FnExactMapDoWrongFalsely : Prop := fnExactMapDoRow.holds Try.pinned (OpenSpec.ofChange fnExactMapDoWrong)

/-- 'laws.FnExactPutRaws': WHATEVER THE INPUT: true; the input reads as it did. -/
def fnExactPutRawsSpec : ChangeSpec := { name := "fnExactPutRaws", fn := fun _ => fun
  | [d1, d2] => { results := [.lit (.bool true)], args := [d1, d2] }
  | _ => none }
def fnExactPutRawsRow : OpenClaim := { program := "ytpjhbhjmaggheaa", sum := "37add63b1dc4fe51501216dac5b842329f579927c9b5d4340e97bfc8e3f7396c", func := "loop.example/g00103/laws.FnExactPutRaws", spec := "fnExactPutRaws", inPlace := ["internal/bytealg.abigen_runtime_cmpstring", "slices.overlaps[loop.example/g00103/impl.File]"], unfollowed := true, recurses := true, apart := false }
def FnExactPutRawsSaid : Prop := fnExactPutRawsRow.holds Try.pinned (OpenSpec.ofChange fnExactPutRawsSpec)

/-- ITS FALSE NEIGHBOUR: 'it returns false'. Refute it at one input. -/
def fnExactPutRawsWrong : ChangeSpec := { name := "fnExactPutRaws", fn := fun _ => fun
  | [d1, d2] => { results := [.lit (.bool false)], args := [d1, d2] }
  | _ => none }
def FnExactPutRawsWrongFalsely : Prop := fnExactPutRawsRow.holds Try.pinned (OpenSpec.ofChange fnExactPutRawsWrong)

/-- 'laws.FnExactMapBetween': WHATEVER THE INPUT: true; the input reads as it did. -/
def fnExactMapBetweenSpec : ChangeSpec := { name := "fnExactMapBetween", fn := fun _ => fun
  | [d1, d2] => { results := [.lit (.bool true)], args := [d1, d2] }
  | _ => none }
def fnExactMapBetweenRow : OpenClaim := { program := "ytpjhbhjmaggheaa", sum := "37add63b1dc4fe51501216dac5b842329f579927c9b5d4340e97bfc8e3f7396c", func := "loop.example/g00103/laws.FnExactMapBetween", spec := "fnExactMapBetween", inPlace := ["internal/bytealg.abigen_runtime_cmpstring"], unfollowed := true, recurses := true, apart := false }
def FnExactMapBetweenSaid : Prop := fnExactMapBetweenRow.holds Try.pinned (OpenSpec.ofChange fnExactMapBetweenSpec)

/-- ITS FALSE NEIGHBOUR: 'it returns false'. Refute it at one input. -/
def fnExactMapBetweenWrong : ChangeSpec := { name := "fnExactMapBetween", fn := fun _ => fun
  | [d1, d2] => { results := [.lit (.bool false)], args := [d1, d2] }
  | _ => none }
def FnExactMapBetweenWrongFalsely : Prop := fnExactMapBetweenRow.holds Try.pinned (OpenSpec.ofChange fnExactMapBetweenWrong)

/- THE SECOND FORM. 'bulk': how many values and letters a reading holds, each counted each time it is reached (what is shared counts as often as it is met; a slice's spare places count too). A statement '..UptoSaid' is the law's where the arguments, and the package variables that the reading takes, are together of bulk at most 1048576: NARROWER than '..Said'. Prove '..Said' where nothing that the law and all that it calls make is longer than what came in: it says more and counts as full. Else prove '..UptoSaid'. A law counts once. -/
mutual
def uptoBulk {H : Type} : DataW H → Nat
  | .lit (.string bytes) => bytes.length + 1
  | .lit _ => 1
  | .nil => 1
  | .ptr d => uptoBulk d + 1
  | .slice elems spare => uptoBulkAll elems + uptoBulkAll spare + 1
  | .agg parts => uptoBulkAll parts + 1
  | .iface _ d => uptoBulk d + 1
  | .map entries => uptoBulkEntries entries + 1
  | .held _ => 1
def uptoBulkAll {H : Type} : List (DataW H) → Nat
  | [] => 0
  | d :: r => uptoBulk d + uptoBulkAll r
def uptoBulkEntries {H : Type} : List (Lit × DataW H) → Nat
  | [] => 0
  | x :: r => uptoBulkEntry x + uptoBulkEntries r
def uptoBulkEntry {H : Type} : Lit × DataW H → Nat
  | (.string bytes, d) => bytes.length + uptoBulk d + 1
  | (_, d) => uptoBulk d + 1
 end
def uptoSmall : (H : Type) → List (DataW H) → Bool := fun _ ds => decide (uptoBulkAll ds ≤ 1048576)
def OpenSpec.upto (s : _root_.Go.ChangeSpec) : _root_.Go.OpenSpec := { _root_.Go.OpenSpec.ofChange s with cond := some uptoSmall }

/-- 'laws.FnExactCutRaws', WHERE WHAT IT READS IS OF BULK AT MOST 1048576: true; the input reads as it did. -/
def fnExactCutRawsUptoRow : OpenClaim := { program := "ytpjhbhjmaggheaa", sum := "37add63b1dc4fe51501216dac5b842329f579927c9b5d4340e97bfc8e3f7396c", func := "loop.example/g00103/laws.FnExactCutRaws", spec := "fnExactCutRaws", inPlace := ["internal/bytealg.abigen_runtime_cmpstring", "slices.overlaps[loop.example/g00103/impl.File]"], unfollowed := true, recurses := true, apart := false, narrowed := true }
def FnExactCutRawsUptoSaid : Prop := fnExactCutRawsUptoRow.holds Try.pinned (OpenSpec.upto fnExactCutRawsSpec)

/-- 'laws.FnMaps', WHERE WHAT IT READS IS OF BULK AT MOST 1048576: true; the input reads as it did. -/
def fnMapsUptoRow : OpenClaim := { program := "ytpjhbhjmaggheaa", sum := "37add63b1dc4fe51501216dac5b842329f579927c9b5d4340e97bfc8e3f7396c", func := "loop.example/g00103/laws.FnMaps", spec := "fnMaps", inPlace := ["internal/bytealg.abigen_runtime_cmpstring", "slices.overlaps[loop.example/g00103/impl.Pair]"], unfollowed := true, recurses := true, apart := false, narrowed := true }
def FnMapsUptoSaid : Prop := fnMapsUptoRow.holds Try.pinned (OpenSpec.upto fnMapsSpec)

/-- 'laws.FnTorn', WHERE WHAT IT READS IS OF BULK AT MOST 1048576: true; the input reads as it did. -/
def fnTornUptoRow : OpenClaim := { program := "ytpjhbhjmaggheaa", sum := "37add63b1dc4fe51501216dac5b842329f579927c9b5d4340e97bfc8e3f7396c", func := "loop.example/g00103/laws.FnTorn", spec := "fnTorn", inPlace := ["internal/bytealg.abigen_runtime_cmpstring", "slices.overlaps[loop.example/g00103/impl.File]"], unfollowed := true, recurses := true, apart := false, narrowed := true }
def FnTornUptoSaid : Prop := fnTornUptoRow.holds Try.pinned (OpenSpec.upto fnTornSpec)

/-- 'laws.FnExactPutRaw', WHERE WHAT IT READS IS OF BULK AT MOST 1048576: true; the input reads as it did. -/
def fnExactPutRawUptoRow : OpenClaim := { program := "ytpjhbhjmaggheaa", sum := "37add63b1dc4fe51501216dac5b842329f579927c9b5d4340e97bfc8e3f7396c", func := "loop.example/g00103/laws.FnExactPutRaw", spec := "fnExactPutRaw", inPlace := ["internal/bytealg.abigen_runtime_cmpstring", "slices.overlaps[loop.example/g00103/impl.File]"], unfollowed := true, recurses := true, apart := false, narrowed := true }
def FnExactPutRawUptoSaid : Prop := fnExactPutRawUptoRow.holds Try.pinned (OpenSpec.upto fnExactPutRawSpec)

/-- 'laws.FnRaws', WHERE WHAT IT READS IS OF BULK AT MOST 1048576: true; the input reads as it did. -/
def fnRawsUptoRow : OpenClaim := { program := "ytpjhbhjmaggheaa", sum := "37add63b1dc4fe51501216dac5b842329f579927c9b5d4340e97bfc8e3f7396c", func := "loop.example/g00103/laws.FnRaws", spec := "fnRaws", inPlace := ["internal/bytealg.abigen_runtime_cmpstring", "slices.overlaps[loop.example/g00103/impl.File]"], unfollowed := true, recurses := true, apart := false, narrowed := true }
def FnRawsUptoSaid : Prop := fnRawsUptoRow.holds Try.pinned (OpenSpec.upto fnRawsSpec)

/-- 'laws.FnExactMapDo', WHERE WHAT IT READS IS OF BULK AT MOST 1048576: true; the input reads as it did. -/
def fnExactMapDoUptoRow : OpenClaim := { program := "ytpjhbhjmaggheaa", sum := "37add63b1dc4fe51501216dac5b842329f579927c9b5d4340e97bfc8e3f7396c", func := "loop.example/g00103/laws.FnExactMapDo", spec := "fnExactMapDo", inPlace := ["internal/bytealg.abigen_runtime_cmpstring", "slices.overlaps[loop.example/g00103/impl.Pair]"], unfollowed := true, recurses := true, apart := false, narrowed := true }
def FnExactMapDoUptoSaid : Prop := fnExactMapDoUptoRow.holds Try.pinned (OpenSpec.upto fnExactMapDoSpec)

/-- 'laws.FnExactPutRaws', WHERE WHAT IT READS IS OF BULK AT MOST 1048576: true; the input reads as it did. -/
def fnExactPutRawsUptoRow : OpenClaim := { program := "ytpjhbhjmaggheaa", sum := "37add63b1dc4fe51501216dac5b842329f579927c9b5d4340e97bfc8e3f7396c", func := "loop.example/g00103/laws.FnExactPutRaws", spec := "fnExactPutRaws", inPlace := ["internal/bytealg.abigen_runtime_cmpstring", "slices.overlaps[loop.example/g00103/impl.File]"], unfollowed := true, recurses := true, apart := false, narrowed := true }
def FnExactPutRawsUptoSaid : Prop := fnExactPutRawsUptoRow.holds Try.pinned (OpenSpec.upto fnExactPutRawsSpec)

/-- 'laws.FnExactMapBetween', WHERE WHAT IT READS IS OF BULK AT MOST 1048576: true; the input reads as it did. -/
def fnExactMapBetweenUptoRow : OpenClaim := { program := "ytpjhbhjmaggheaa", sum := "37add63b1dc4fe51501216dac5b842329f579927c9b5d4340e97bfc8e3f7396c", func := "loop.example/g00103/laws.FnExactMapBetween", spec := "fnExactMapBetween", inPlace := ["internal/bytealg.abigen_runtime_cmpstring"], unfollowed := true, recurses := true, apart := false, narrowed := true }
def FnExactMapBetweenUptoSaid : Prop := fnExactMapBetweenUptoRow.holds Try.pinned (OpenSpec.upto fnExactMapBetweenSpec)

end Rows
end Go.Proofs.Ytpjhbhjmaggheaa
