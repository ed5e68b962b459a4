/-
  NARROWER THAN 'FOR EVERY INPUT', by the rows' own cells (each row's printed sentence says how): FnExactMissing: loops · FnExactUseful: loops · FnExactIdle: loops · FnExactTidy: loops · FnExactTrees: loops · FnExactUnify: loops · FnExactWrite: loops.
  DERIVED. THE GIVEN ROWS OF THIS SEAT. 11 by the template 'for every input the law returns true; each argument reads behind the call as it read before'; 0 by the template 'total and deterministic' (their statements: YtgbcdfeflgnogaaTotals.lean).
  GIVEN WITH THE SEED: the statements are not yours to turn. If you find one false, say at which input.
  Laid BY PROGRAM, IN A SANDBOX (cutbox-rows.mjs): the forced cells as the released guide's own fill.sh prints them over the translation 94db04802692c419… (all of the seat's roots in one cut). By AI agents, Wed Nov 11 2026. No macro, syntax, notation, axiom, sorry.
-/
import Derived.Test.YtgbcdfeflgnogaaChecked
import GoSem.Claim
import GoSem.ClaimJoined
import GoSem.ClaimMapViews
import Derived.JoinedTies
import Derived.KernelRfl
namespace Go.Proofs.Ytgbcdfeflgnogaa
/- THE CELL 'sum', in the pinned program and in every row, IS THE sha256 OF THE DUMP (.gsa) THAT YtgbcdfeflgnogaaProg.lean LOADS. Nothing in Lean hashes anything: it is a label: what it is worth is what the hold of that sum in a sandbox is worth. -/
noncomputable def Try.pinned : Pinned := { name := "ytgbcdfeflgnogaa", sum := "94db04802692c419584acc2e772114124c8514c9f63ba32ba74c15b0dd13f43b", checked := Try.checked }
namespace Rows
def none {H : Type} : Left H := { results := [], args := [] }

/-- 'laws.FnExactMissing': WHATEVER THE INPUT: true; the input reads as it did. -/
def fnExactMissingSpec : ChangeSpec := { name := "fnExactMissing", fn := fun _ => fun
  | [d1, d2] => { results := [.lit (.bool true)], args := [d1, d2] }
  | _ => none }
def fnExactMissingRow : OpenClaim := { program := "ytgbcdfeflgnogaa", sum := "94db04802692c419584acc2e772114124c8514c9f63ba32ba74c15b0dd13f43b", func := "loop.example/g00323/laws.FnExactMissing", spec := "fnExactMissing", unfollowed := true, recurses := true, loops := true, apart := false }
def FnExactMissingSaid : Prop := fnExactMissingRow.holds Try.pinned (OpenSpec.ofChange fnExactMissingSpec)

/-- ITS FALSE NEIGHBOUR: 'it returns false'. Refute it at one input. -/
def fnExactMissingWrong : ChangeSpec := { name := "fnExactMissing", fn := fun _ => fun
  | [d1, d2] => { results := [.lit (.bool false)], args := [d1, d2] }
  | _ => none }
def FnExactMissingWrongFalsely : Prop := fnExactMissingRow.holds Try.pinned (OpenSpec.ofChange fnExactMissingWrong)

/-- 'laws.FnExactUseful': WHATEVER THE INPUT: true; the input reads as it did. -/
def fnExactUsefulSpec : ChangeSpec := { name := "fnExactUseful", fn := fun _ => fun
  | [d1, d2, d3] => { results := [.lit (.bool true)], args := [d1, d2, d3] }
  | _ => none }
def fnExactUsefulRow : OpenClaim := { program := "ytgbcdfeflgnogaa", sum := "94db04802692c419584acc2e772114124c8514c9f63ba32ba74c15b0dd13f43b", func := "loop.example/g00323/laws.FnExactUseful", spec := "fnExactUseful", unfollowed := true, recurses := true, loops := true, apart := false }
def FnExactUsefulSaid : Prop := fnExactUsefulRow.holds Try.pinned (OpenSpec.ofChange fnExactUsefulSpec)

/-- ITS FALSE NEIGHBOUR: 'it returns false'. Refute it at one input. -/
def fnExactUsefulWrong : ChangeSpec := { name := "fnExactUseful", fn := fun _ => fun
  | [d1, d2, d3] => { results := [.lit (.bool false)], args := [d1, d2, d3] }
  | _ => none }
def FnExactUsefulWrongFalsely : Prop := fnExactUsefulRow.holds Try.pinned (OpenSpec.ofChange fnExactUsefulWrong)

/-- 'laws.FnExactIdle': WHATEVER THE INPUT: true; the input reads as it did. -/
def fnExactIdleSpec : ChangeSpec := { name := "fnExactIdle", fn := fun _ => fun
  | [d1, d2] => { results := [.lit (.bool true)], args := [d1, d2] }
  | _ => none }
def fnExactIdleRow : OpenClaim := { program := "ytgbcdfeflgnogaa", sum := "94db04802692c419584acc2e772114124c8514c9f63ba32ba74c15b0dd13f43b", func := "loop.example/g00323/laws.FnExactIdle", spec := "fnExactIdle", unfollowed := true, recurses := true, loops := true, apart := false }
def FnExactIdleSaid : Prop := fnExactIdleRow.holds Try.pinned (OpenSpec.ofChange fnExactIdleSpec)

/-- ITS FALSE NEIGHBOUR: 'it returns false'. Refute it at one input. -/
def fnExactIdleWrong : ChangeSpec := { name := "fnExactIdle", fn := fun _ => fun
  | [d1, d2] => { results := [.lit (.bool false)], args := [d1, d2] }
  | _ => none }
def FnExactIdleWrongFalsely : Prop := fnExactIdleRow.holds Try.pinned (OpenSpec.ofChange fnExactIdleWrong)

/-- 'laws.FnExactTidy': WHATEVER THE INPUT: true; the input reads as it did. -/
def fnExactTidySpec : ChangeSpec := { name := "fnExactTidy", fn := fun _ => fun
  | [d] => { results := [.lit (.bool true)], args := [d] }
  | _ => none }
def fnExactTidyRow : OpenClaim := { program := "ytgbcdfeflgnogaa", sum := "94db04802692c419584acc2e772114124c8514c9f63ba32ba74c15b0dd13f43b", func := "loop.example/g00323/laws.FnExactTidy", spec := "fnExactTidy", unfollowed := true, recurses := true, loops := true, apart := false }
def FnExactTidySaid : Prop := fnExactTidyRow.holds Try.pinned (OpenSpec.ofChange fnExactTidySpec)

/-- ITS FALSE NEIGHBOUR: 'it returns false'. Refute it at one input. -/
def fnExactTidyWrong : ChangeSpec := { name := "fnExactTidy", fn := fun _ => fun
  | [d] => { results := [.lit (.bool false)], args := [d] }
  | _ => none }
def FnExactTidyWrongFalsely : Prop := fnExactTidyRow.holds Try.pinned (OpenSpec.ofChange fnExactTidyWrong)

/-- 'laws.FnTypesShown': WHATEVER THE INPUT: true; the input reads as it did. -/
def fnTypesShownSpec : ChangeSpec := { name := "fnTypesShown", fn := fun _ => fun
  | [d] => { results := [.lit (.bool true)], args := [d] }
  | _ => none }
def fnTypesShownRow : OpenClaim := { program := "ytgbcdfeflgnogaa", sum := "94db04802692c419584acc2e772114124c8514c9f63ba32ba74c15b0dd13f43b", func := "loop.example/g00323/laws.FnTypesShown", spec := "fnTypesShown", unfollowed := true, recurses := true, apart := false }
def FnTypesShownSaid : Prop := fnTypesShownRow.holds Try.pinned (OpenSpec.ofChange fnTypesShownSpec)

/-- ITS FALSE NEIGHBOUR: 'it returns false'. Refute it at one input. -/
def fnTypesShownWrong : ChangeSpec := { name := "fnTypesShown", fn := fun _ => fun
  | [d] => { results := [.lit (.bool false)], args := [d] }
  | _ => none }
def FnTypesShownWrongFalsely : Prop := fnTypesShownRow.holds Try.pinned (OpenSpec.ofChange fnTypesShownWrong)

/-- 'laws.FnApplied': WHATEVER THE INPUT: true; the input reads as it did. -/
def fnAppliedSpec : ChangeSpec := { name := "fnApplied", fn := fun _ => fun
  | [d] => { results := [.lit (.bool true)], args := [d] }
  | _ => none }
def fnAppliedRow : OpenClaim := { program := "ytgbcdfeflgnogaa", sum := "94db04802692c419584acc2e772114124c8514c9f63ba32ba74c15b0dd13f43b", func := "loop.example/g00323/laws.FnApplied", spec := "fnApplied", unfollowed := true, recurses := true, apart := false }
def FnAppliedSaid : Prop := fnAppliedRow.holds Try.pinned (OpenSpec.ofChange fnAppliedSpec)

/-- ITS FALSE NEIGHBOUR: 'it returns false'. Refute it at one input. -/
def fnAppliedWrong : ChangeSpec := { name := "fnApplied", fn := fun _ => fun
  | [d] => { results := [.lit (.bool false)], args := [d] }
  | _ => none }
def FnAppliedWrongFalsely : Prop := fnAppliedRow.holds Try.pinned (OpenSpec.ofChange fnAppliedWrong)

/-- 'laws.FnAlike': WHATEVER THE INPUT: true; the input reads as it did. -/
def fnAlikeSpec : ChangeSpec := { name := "fnAlike", fn := fun _ => fun
  | [d] => { results := [.lit (.bool true)], args := [d] }
  | _ => none }
def fnAlikeRow : OpenClaim := { program := "ytgbcdfeflgnogaa", sum := "94db04802692c419584acc2e772114124c8514c9f63ba32ba74c15b0dd13f43b", func := "loop.example/g00323/laws.FnAlike", spec := "fnAlike", unfollowed := true, recurses := true, apart := false }
def FnAlikeSaid : Prop := fnAlikeRow.holds Try.pinned (OpenSpec.ofChange fnAlikeSpec)

/-- ITS FALSE NEIGHBOUR: 'it returns false'. Refute it at one input. -/
def fnAlikeWrong : ChangeSpec := { name := "fnAlike", fn := fun _ => fun
  | [d] => { results := [.lit (.bool false)], args := [d] }
  | _ => none }
def FnAlikeWrongFalsely : Prop := fnAlikeRow.holds Try.pinned (OpenSpec.ofChange fnAlikeWrong)

/-- 'laws.FnExactTrees': WHATEVER THE INPUT: true; the input reads as it did. -/
def fnExactTreesSpec : ChangeSpec := { name := "fnExactTrees", fn := fun _ => fun
  | [d1, d2] => { results := [.lit (.bool true)], args := [d1, d2] }
  | _ => none }
def fnExactTreesRow : OpenClaim := { program := "ytgbcdfeflgnogaa", sum := "94db04802692c419584acc2e772114124c8514c9f63ba32ba74c15b0dd13f43b", func := "loop.example/g00323/laws.FnExactTrees", spec := "fnExactTrees", unfollowed := true, recurses := true, loops := true, apart := false }
def FnExactTreesSaid : Prop := fnExactTreesRow.holds Try.pinned (OpenSpec.ofChange fnExactTreesSpec)

/-- ITS FALSE NEIGHBOUR: 'it returns false'. Refute it at one input. -/
def fnExactTreesWrong : ChangeSpec := { name := "fnExactTrees", fn := fun _ => fun
  | [d1, d2] => { results := [.lit (.bool false)], args := [d1, d2] }
  | _ => none }
def FnExactTreesWrongFalsely : Prop := fnExactTreesRow.holds Try.pinned (OpenSpec.ofChange fnExactTreesWrong)

/-- 'laws.FnValues': WHATEVER THE INPUT: true; the input reads as it did. -/
def fnValuesSpec : ChangeSpec := { name := "fnValues", fn := fun _ => fun
  | [d] => { results := [.lit (.bool true)], args := [d] }
  | _ => none }
def fnValuesRow : OpenClaim := { program := "ytgbcdfeflgnogaa", sum := "94db04802692c419584acc2e772114124c8514c9f63ba32ba74c15b0dd13f43b", func := "loop.example/g00323/laws.FnValues", spec := "fnValues", unfollowed := true, recurses := true, apart := false }
def FnValuesSaid : Prop := fnValuesRow.holds Try.pinned (OpenSpec.ofChange fnValuesSpec)

/-- ITS FALSE NEIGHBOUR: 'it returns false'. Refute it at one input. -/
def fnValuesWrong : ChangeSpec := { name := "fnValues", fn := fun _ => fun
  | [d] => { results := [.lit (.bool false)], args := [d] }
  | _ => none }
def FnValuesWrongFalsely : Prop := fnValuesRow.holds Try.pinned (OpenSpec.ofChange fnValuesWrong)

/-- 'laws.FnExactUnify': WHATEVER THE INPUT: true; the input reads as it did. -/
def fnExactUnifySpec : ChangeSpec := { name := "fnExactUnify", fn := fun _ => fun
  | [d1, d2, d3] => { results := [.lit (.bool true)], args := [d1, d2, d3] }
  | _ => none }
def fnExactUnifyRow : OpenClaim := { program := "ytgbcdfeflgnogaa", sum := "94db04802692c419584acc2e772114124c8514c9f63ba32ba74c15b0dd13f43b", func := "loop.example/g00323/laws.FnExactUnify", spec := "fnExactUnify", unfollowed := true, recurses := true, loops := true, apart := false }
def FnExactUnifySaid : Prop := fnExactUnifyRow.holds Try.pinned (OpenSpec.ofChange fnExactUnifySpec)

/-- ITS FALSE NEIGHBOUR: 'it returns false'. Refute it at one input. -/
def fnExactUnifyWrong : ChangeSpec := { name := "fnExactUnify", fn := fun _ => fun
  | [d1, d2, d3] => { results := [.lit (.bool false)], args := [d1, d2, d3] }
  | _ => none }
def FnExactUnifyWrongFalsely : Prop := fnExactUnifyRow.holds Try.pinned (OpenSpec.ofChange fnExactUnifyWrong)

/-- 'laws.FnExactWrite': WHATEVER THE INPUT: true; the input reads as it did. -/
def fnExactWriteSpec : ChangeSpec := { name := "fnExactWrite", fn := fun _ => fun
  | [d] => { results := [.lit (.bool true)], args := [d] }
  | _ => none }
def fnExactWriteRow : OpenClaim := { program := "ytgbcdfeflgnogaa", sum := "94db04802692c419584acc2e772114124c8514c9f63ba32ba74c15b0dd13f43b", func := "loop.example/g00323/laws.FnExactWrite", spec := "fnExactWrite", inPlace := ["internal/abi.NoEscape", "internal/bytealg.MakeNoZero"], unfollowed := true, recurses := true, loops := true, apart := false }
def FnExactWriteSaid : Prop := fnExactWriteRow.holds Try.pinned (OpenSpec.ofChange fnExactWriteSpec)

/-- ITS FALSE NEIGHBOUR: 'it returns false'. Refute it at one input. -/
def fnExactWriteWrong : ChangeSpec := { name := "fnExactWrite", fn := fun _ => fun
  | [d] => { results := [.lit (.bool false)], args := [d] }
  | _ => none }
def FnExactWriteWrongFalsely : Prop := fnExactWriteRow.holds Try.pinned (OpenSpec.ofChange fnExactWriteWrong)

/- THE SECOND FORM. 'bulk': how many values and letters a reading holds, each counted each time it is reached (what is shared counts as often as it is met; a slice's spare places count too). A statement '..UptoSaid' is the law's where the arguments, and the package variables that the reading takes, are together of bulk at most 1048576: NARROWER than '..Said'. Prove '..Said' where nothing that the law and all that it calls make is longer than what came in: it says more and counts as full. Else prove '..UptoSaid'. A law counts once. -/
mutual
def uptoBulk {H : Type} : DataW H → Nat
  | .lit (.string bytes) => bytes.length + 1
  | .lit _ => 1
  | .nil => 1
  | .ptr d => uptoBulk d + 1
  | .slice elems spare => uptoBulkAll elems + uptoBulkAll spare + 1
  | .agg parts => uptoBulkAll parts + 1
  | .iface _ d => uptoBulk d + 1
  | .map entries => uptoBulkEntries entries + 1
  | .held _ => 1
def uptoBulkAll {H : Type} : List (DataW H) → Nat
  | [] => 0
  | d :: r => uptoBulk d + uptoBulkAll r
def uptoBulkEntries {H : Type} : List (Lit × DataW H) → Nat
  | [] => 0
  | x :: r => uptoBulkEntry x + uptoBulkEntries r
def uptoBulkEntry {H : Type} : Lit × DataW H → Nat
  | (.string bytes, d) => bytes.length + uptoBulk d + 1
  | (_, d) => uptoBulk d + 1
 end
def uptoSmall : (H : Type) → List (DataW H) → Bool := fun _ ds => decide (uptoBulkAll ds ≤ 1048576)
def OpenSpec.upto (s : _root_.Go.ChangeSpec) : _root_.Go.OpenSpec := { _root_.Go.OpenSpec.ofChange s with cond := some uptoSmall }

/-- 'laws.FnExactMissing', WHERE WHAT IT READS IS OF BULK AT MOST 1048576: true; the input reads as it did. -/
def fnExactMissingUptoRow : OpenClaim := { program := "ytgbcdfeflgnogaa", sum := "94db04802692c419584acc2e772114124c8514c9f63ba32ba74c15b0dd13f43b", func := "loop.example/g00323/laws.FnExactMissing", spec := "fnExactMissing", unfollowed := true, recurses := true, loops := true, apart := false, narrowed := true }
def FnExactMissingUptoSaid : Prop := fnExactMissingUptoRow.holds Try.pinned (OpenSpec.upto fnExactMissingSpec)

/-- 'laws.FnExactUseful', WHERE WHAT IT READS IS OF BULK AT MOST 1048576: true; the input reads as it did. -/
def fnExactUsefulUptoRow : OpenClaim := { program := "ytgbcdfeflgnogaa", sum := "94db04802692c419584acc2e772114124c8514c9f63ba32ba74c15b0dd13f43b", func := "loop.example/g00323/laws.FnExactUseful", spec := "fnExactUseful", unfollowed := true, recurses := true, loops := true, apart := false, narrowed := true }
def FnExactUsefulUptoSaid : Prop := fnExactUsefulUptoRow.holds Try.pinned (OpenSpec.upto fnExactUsefulSpec)

/-- 'laws.FnExactIdle', WHERE WHAT IT READS IS OF BULK AT MOST 1048576: true; the input reads as it did. -/
def fnExactIdleUptoRow : OpenClaim := { program := "ytgbcdfeflgnogaa", sum := "94db04802692c419584acc2e772114124c8514c9f63ba32ba74c15b0dd13f43b", func := "loop.example/g00323/laws.FnExactIdle", spec := "fnExactIdle", unfollowed := true, recurses := true, loops := true, apart := false, narrowed := true }
def FnExactIdleUptoSaid : Prop := fnExactIdleUptoRow.holds Try.pinned (OpenSpec.upto fnExactIdleSpec)

/-- 'laws.FnExactTidy', WHERE WHAT IT READS IS OF BULK AT MOST 1048576: true; the input reads as it did. -/
def fnExactTidyUptoRow : OpenClaim := { program := "ytgbcdfeflgnogaa", sum := "94db04802692c419584acc2e772114124c8514c9f63ba32ba74c15b0dd13f43b", func := "loop.example/g00323/laws.FnExactTidy", spec := "fnExactTidy", unfollowed := true, recurses := true, loops := true, apart := false, narrowed := true }
def FnExactTidyUptoSaid : Prop := fnExactTidyUptoRow.holds Try.pinned (OpenSpec.upto fnExactTidySpec)

/-- 'laws.FnTypesShown', WHERE WHAT IT READS IS OF BULK AT MOST 1048576: true; the input reads as it did. -/
def fnTypesShownUptoRow : OpenClaim := { program := "ytgbcdfeflgnogaa", sum := "94db04802692c419584acc2e772114124c8514c9f63ba32ba74c15b0dd13f43b", func := "loop.example/g00323/laws.FnTypesShown", spec := "fnTypesShown", unfollowed := true, recurses := true, apart := false, narrowed := true }
def FnTypesShownUptoSaid : Prop := fnTypesShownUptoRow.holds Try.pinned (OpenSpec.upto fnTypesShownSpec)

/-- 'laws.FnApplied', WHERE WHAT IT READS IS OF BULK AT MOST 1048576: true; the input reads as it did. -/
def fnAppliedUptoRow : OpenClaim := { program := "ytgbcdfeflgnogaa", sum := "94db04802692c419584acc2e772114124c8514c9f63ba32ba74c15b0dd13f43b", func := "loop.example/g00323/laws.FnApplied", spec := "fnApplied", unfollowed := true, recurses := true, apart := false, narrowed := true }
def FnAppliedUptoSaid : Prop := fnAppliedUptoRow.holds Try.pinned (OpenSpec.upto fnAppliedSpec)

/-- 'laws.FnAlike', WHERE WHAT IT READS IS OF BULK AT MOST 1048576: true; the input reads as it did. -/
def fnAlikeUptoRow : OpenClaim := { program := "ytgbcdfeflgnogaa", sum := "94db04802692c419584acc2e772114124c8514c9f63ba32ba74c15b0dd13f43b", func := "loop.example/g00323/laws.FnAlike", spec := "fnAlike", unfollowed := true, recurses := true, apart := false, narrowed := true }
def FnAlikeUptoSaid : Prop := fnAlikeUptoRow.holds Try.pinned (OpenSpec.upto fnAlikeSpec)

/-- 'laws.FnExactTrees', WHERE WHAT IT READS IS OF BULK AT MOST 1048576: true; the input reads as it did. -/
def fnExactTreesUptoRow : OpenClaim := { program := "ytgbcdfeflgnogaa", sum := "94db04802692c419584acc2e772114124c8514c9f63ba32ba74c15b0dd13f43b", func := "loop.example/g00323/laws.FnExactTrees", spec := "fnExactTrees", unfollowed := true, recurses := true, loops := true, apart := false, narrowed := true }
def FnExactTreesUptoSaid : Prop := fnExactTreesUptoRow.holds Try.pinned (OpenSpec.upto fnExactTreesSpec)

/-- 'laws.FnValues', WHERE WHAT IT READS IS OF BULK AT MOST 1048576: true; the input reads as it did. -/
def fnValuesUptoRow : OpenClaim := { program := "ytgbcdfeflgnogaa", sum := "94db04802692c419584acc2e772114124c8514c9f63ba32ba74c15b0dd13f43b", func := "loop.example/g00323/laws.FnValues", spec := "fnValues", unfollowed := true, recurses := true, apart := false, narrowed := true }
def FnValuesUptoSaid : Prop := fnValuesUptoRow.holds Try.pinned (OpenSpec.upto fnValuesSpec)

/-- 'laws.FnExactUnify', WHERE WHAT IT READS IS OF BULK AT MOST 1048576: true; the input reads as it did. -/
def fnExactUnifyUptoRow : OpenClaim := { program := "ytgbcdfeflgnogaa", sum := "94db04802692c419584acc2e772114124c8514c9f63ba32ba74c15b0dd13f43b", func := "loop.example/g00323/laws.FnExactUnify", spec := "fnExactUnify", unfollowed := true, recurses := true, loops := true, apart := false, narrowed := true }
def FnExactUnifyUptoSaid : Prop := fnExactUnifyUptoRow.holds Try.pinned (OpenSpec.upto fnExactUnifySpec)

/-- 'laws.FnExactWrite', WHERE WHAT IT READS IS OF BULK AT MOST 1048576: true; the input reads as it did. -/
def fnExactWriteUptoRow : OpenClaim := { program := "ytgbcdfeflgnogaa", sum := "94db04802692c419584acc2e772114124c8514c9f63ba32ba74c15b0dd13f43b", func := "loop.example/g00323/laws.FnExactWrite", spec := "fnExactWrite", inPlace := ["internal/abi.NoEscape", "internal/bytealg.MakeNoZero"], unfollowed := true, recurses := true, loops := true, apart := false, narrowed := true }
def FnExactWriteUptoSaid : Prop := fnExactWriteUptoRow.holds Try.pinned (OpenSpec.upto fnExactWriteSpec)

end Rows
end Go.Proofs.Ytgbcdfeflgnogaa
