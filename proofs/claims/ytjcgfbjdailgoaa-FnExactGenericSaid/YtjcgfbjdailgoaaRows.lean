/-
  NARROWER THAN 'FOR EVERY INPUT', by the rows' own cells (each row's printed sentence says how): FnExactErase: loops · FnExactTreeOk: loops · FnExactFreeVars: loops · FnExactMissing: loops · FnExactUseful: loops · FnExactIdle: loops · FnExactTidy: loops · FnExactSubOk: loops · FnExactGeneric: loops · FnExactTrees: loops.
  DERIVED. THE GIVEN ROWS OF THIS SEAT. 12 by the template 'for every input the law returns true; each argument reads behind the call as it read before'; 0 by the template 'total and deterministic' (their statements: YtjcgfbjdailgoaaTotals.lean).
  GIVEN WITH THE SEED: the statements are not yours to turn. If you find one false, say at which input.
  Laid BY PROGRAM, IN A SANDBOX (cutbox-rows.mjs): the forced cells as the released guide's own fill.sh prints them over the translation 26542db460c8a078… (all of the seat's roots in one cut). By AI agents, Wed Nov 11 2026. No macro, syntax, notation, axiom, sorry.
-/
import Derived.Test.YtjcgfbjdailgoaaChecked
import GoSem.Claim
import GoSem.ClaimJoined
import GoSem.ClaimMapViews
import Derived.JoinedTies
import Derived.KernelRfl
namespace Go.Proofs.Ytjcgfbjdailgoaa
/- THE CELL 'sum', in the pinned program and in every row, IS THE sha256 OF THE DUMP (.gsa) THAT YtjcgfbjdailgoaaProg.lean LOADS. Nothing in Lean hashes anything: it is a label: what it is worth is what the hold of that sum in a sandbox is worth. -/
noncomputable def Try.pinned : Pinned := { name := "ytjcgfbjdailgoaa", sum := "26542db460c8a078384b07ab4d5a6e7265dbdb6e9e2d8f4c08cd66e7016e6f42", checked := Try.checked }
namespace Rows
def none {H : Type} : Left H := { results := [], args := [] }

/-- 'laws.FnExactErase': WHATEVER THE INPUT: true; the input reads as it did. -/
def fnExactEraseSpec : ChangeSpec := { name := "fnExactErase", fn := fun _ => fun
  | [d] => { results := [.lit (.bool true)], args := [d] }
  | _ => none }
def fnExactEraseRow : OpenClaim := { program := "ytjcgfbjdailgoaa", sum := "26542db460c8a078384b07ab4d5a6e7265dbdb6e9e2d8f4c08cd66e7016e6f42", func := "loop.example/g00323/laws.FnExactErase", spec := "fnExactErase", recurses := true, loops := true, apart := false }
def FnExactEraseSaid : Prop := fnExactEraseRow.holds Try.pinned (OpenSpec.ofChange fnExactEraseSpec)

/-- ITS FALSE NEIGHBOUR: 'it returns false'. Refute it at one input. -/
def fnExactEraseWrong : ChangeSpec := { name := "fnExactErase", fn := fun _ => fun
  | [d] => { results := [.lit (.bool false)], args := [d] }
  | _ => none }
def FnExactEraseWrongFalsely : Prop := fnExactEraseRow.holds Try.pinned (OpenSpec.ofChange fnExactEraseWrong)

/-- 'laws.FnExactVerify': WHATEVER THE INPUT: true; the input reads as it did. -/
def fnExactVerifySpec : ChangeSpec := { name := "fnExactVerify", fn := fun _ => fun
  | [d] => { results := [.lit (.bool true)], args := [d] }
  | _ => none }
def fnExactVerifyRow : OpenClaim := { program := "ytjcgfbjdailgoaa", sum := "26542db460c8a078384b07ab4d5a6e7265dbdb6e9e2d8f4c08cd66e7016e6f42", func := "loop.example/g00323/laws.FnExactVerify", spec := "fnExactVerify", apart := false }
def FnExactVerifySaid : Prop := fnExactVerifyRow.holds Try.pinned (OpenSpec.ofChange fnExactVerifySpec)

/-- ITS FALSE NEIGHBOUR: 'it returns false'. Refute it at one input. -/
def fnExactVerifyWrong : ChangeSpec := { name := "fnExactVerify", fn := fun _ => fun
  | [d] => { results := [.lit (.bool false)], args := [d] }
  | _ => none }
def FnExactVerifyWrongFalsely : Prop := fnExactVerifyRow.holds Try.pinned (OpenSpec.ofChange fnExactVerifyWrong)

/-- 'laws.FnExactDepths': WHATEVER THE INPUT: true; the input reads as it did. -/
def fnExactDepthsSpec : ChangeSpec := { name := "fnExactDepths", fn := fun _ => fun
  | [d1, d2] => { results := [.lit (.bool true)], args := [d1, d2] }
  | _ => none }
def fnExactDepthsRow : OpenClaim := { program := "ytjcgfbjdailgoaa", sum := "26542db460c8a078384b07ab4d5a6e7265dbdb6e9e2d8f4c08cd66e7016e6f42", func := "loop.example/g00323/laws.FnExactDepths", spec := "fnExactDepths", apart := false }
def FnExactDepthsSaid : Prop := fnExactDepthsRow.holds Try.pinned (OpenSpec.ofChange fnExactDepthsSpec)

/-- ITS FALSE NEIGHBOUR: 'it returns false'. Refute it at one input. -/
def fnExactDepthsWrong : ChangeSpec := { name := "fnExactDepths", fn := fun _ => fun
  | [d1, d2] => { results := [.lit (.bool false)], args := [d1, d2] }
  | _ => none }
def FnExactDepthsWrongFalsely : Prop := fnExactDepthsRow.holds Try.pinned (OpenSpec.ofChange fnExactDepthsWrong)

/-- 'laws.FnExactTreeOk': WHATEVER THE INPUT: true; the input reads as it did. -/
def fnExactTreeOkSpec : ChangeSpec := { name := "fnExactTreeOk", fn := fun _ => fun
  | [d1, d2] => { results := [.lit (.bool true)], args := [d1, d2] }
  | _ => none }
def fnExactTreeOkRow : OpenClaim := { program := "ytjcgfbjdailgoaa", sum := "26542db460c8a078384b07ab4d5a6e7265dbdb6e9e2d8f4c08cd66e7016e6f42", func := "loop.example/g00323/laws.FnExactTreeOk", spec := "fnExactTreeOk", unfollowed := true, recurses := true, loops := true, apart := false }
def FnExactTreeOkSaid : Prop := fnExactTreeOkRow.holds Try.pinned (OpenSpec.ofChange fnExactTreeOkSpec)

/-- ITS FALSE NEIGHBOUR: 'it returns false'. Refute it at one input. -/
def fnExactTreeOkWrong : ChangeSpec := { name := "fnExactTreeOk", fn := fun _ => fun
  | [d1, d2] => { results := [.lit (.bool false)], args := [d1, d2] }
  | _ => none }
def FnExactTreeOkWrongFalsely : Prop := fnExactTreeOkRow.holds Try.pinned (OpenSpec.ofChange fnExactTreeOkWrong)

/-- 'laws.FnExactFreeVars': WHATEVER THE INPUT: true; the input reads as it did. -/
def fnExactFreeVarsSpec : ChangeSpec := { name := "fnExactFreeVars", fn := fun _ => fun
  | [d] => { results := [.lit (.bool true)], args := [d] }
  | _ => none }
def fnExactFreeVarsRow : OpenClaim := { program := "ytjcgfbjdailgoaa", sum := "26542db460c8a078384b07ab4d5a6e7265dbdb6e9e2d8f4c08cd66e7016e6f42", func := "loop.example/g00323/laws.FnExactFreeVars", spec := "fnExactFreeVars", recurses := true, loops := true, apart := false }
def FnExactFreeVarsSaid : Prop := fnExactFreeVarsRow.holds Try.pinned (OpenSpec.ofChange fnExactFreeVarsSpec)

/-- ITS FALSE NEIGHBOUR: 'it returns false'. Refute it at one input. -/
def fnExactFreeVarsWrong : ChangeSpec := { name := "fnExactFreeVars", fn := fun _ => fun
  | [d] => { results := [.lit (.bool false)], args := [d] }
  | _ => none }
def FnExactFreeVarsWrongFalsely : Prop := fnExactFreeVarsRow.holds Try.pinned (OpenSpec.ofChange fnExactFreeVarsWrong)

/-- 'laws.FnExactMissing': WHATEVER THE INPUT: true; the input reads as it did. -/
def fnExactMissingSpec : ChangeSpec := { name := "fnExactMissing", fn := fun _ => fun
  | [d1, d2] => { results := [.lit (.bool true)], args := [d1, d2] }
  | _ => none }
def fnExactMissingRow : OpenClaim := { program := "ytjcgfbjdailgoaa", sum := "26542db460c8a078384b07ab4d5a6e7265dbdb6e9e2d8f4c08cd66e7016e6f42", func := "loop.example/g00323/laws.FnExactMissing", spec := "fnExactMissing", unfollowed := true, recurses := true, loops := true, apart := false }
def FnExactMissingSaid : Prop := fnExactMissingRow.holds Try.pinned (OpenSpec.ofChange fnExactMissingSpec)

/-- ITS FALSE NEIGHBOUR: 'it returns false'. Refute it at one input. -/
def fnExactMissingWrong : ChangeSpec := { name := "fnExactMissing", fn := fun _ => fun
  | [d1, d2] => { results := [.lit (.bool false)], args := [d1, d2] }
  | _ => none }
def FnExactMissingWrongFalsely : Prop := fnExactMissingRow.holds Try.pinned (OpenSpec.ofChange fnExactMissingWrong)

/-- 'laws.FnExactUseful': WHATEVER THE INPUT: true; the input reads as it did. -/
def fnExactUsefulSpec : ChangeSpec := { name := "fnExactUseful", fn := fun _ => fun
  | [d1, d2, d3] => { results := [.lit (.bool true)], args := [d1, d2, d3] }
  | _ => none }
def fnExactUsefulRow : OpenClaim := { program := "ytjcgfbjdailgoaa", sum := "26542db460c8a078384b07ab4d5a6e7265dbdb6e9e2d8f4c08cd66e7016e6f42", func := "loop.example/g00323/laws.FnExactUseful", spec := "fnExactUseful", unfollowed := true, recurses := true, loops := true, apart := false }
def FnExactUsefulSaid : Prop := fnExactUsefulRow.holds Try.pinned (OpenSpec.ofChange fnExactUsefulSpec)

/-- ITS FALSE NEIGHBOUR: 'it returns false'. Refute it at one input. -/
def fnExactUsefulWrong : ChangeSpec := { name := "fnExactUseful", fn := fun _ => fun
  | [d1, d2, d3] => { results := [.lit (.bool false)], args := [d1, d2, d3] }
  | _ => none }
def FnExactUsefulWrongFalsely : Prop := fnExactUsefulRow.holds Try.pinned (OpenSpec.ofChange fnExactUsefulWrong)

/-- 'laws.FnExactIdle': WHATEVER THE INPUT: true; the input reads as it did. -/
def fnExactIdleSpec : ChangeSpec := { name := "fnExactIdle", fn := fun _ => fun
  | [d1, d2] => { results := [.lit (.bool true)], args := [d1, d2] }
  | _ => none }
def fnExactIdleRow : OpenClaim := { program := "ytjcgfbjdailgoaa", sum := "26542db460c8a078384b07ab4d5a6e7265dbdb6e9e2d8f4c08cd66e7016e6f42", func := "loop.example/g00323/laws.FnExactIdle", spec := "fnExactIdle", unfollowed := true, recurses := true, loops := true, apart := false }
def FnExactIdleSaid : Prop := fnExactIdleRow.holds Try.pinned (OpenSpec.ofChange fnExactIdleSpec)

/-- ITS FALSE NEIGHBOUR: 'it returns false'. Refute it at one input. -/
def fnExactIdleWrong : ChangeSpec := { name := "fnExactIdle", fn := fun _ => fun
  | [d1, d2] => { results := [.lit (.bool false)], args := [d1, d2] }
  | _ => none }
def FnExactIdleWrongFalsely : Prop := fnExactIdleRow.holds Try.pinned (OpenSpec.ofChange fnExactIdleWrong)

/-- 'laws.FnExactTidy': WHATEVER THE INPUT: true; the input reads as it did. -/
def fnExactTidySpec : ChangeSpec := { name := "fnExactTidy", fn := fun _ => fun
  | [d] => { results := [.lit (.bool true)], args := [d] }
  | _ => none }
def fnExactTidyRow : OpenClaim := { program := "ytjcgfbjdailgoaa", sum := "26542db460c8a078384b07ab4d5a6e7265dbdb6e9e2d8f4c08cd66e7016e6f42", func := "loop.example/g00323/laws.FnExactTidy", spec := "fnExactTidy", unfollowed := true, recurses := true, loops := true, apart := false }
def FnExactTidySaid : Prop := fnExactTidyRow.holds Try.pinned (OpenSpec.ofChange fnExactTidySpec)

/-- ITS FALSE NEIGHBOUR: 'it returns false'. Refute it at one input. -/
def fnExactTidyWrong : ChangeSpec := { name := "fnExactTidy", fn := fun _ => fun
  | [d] => { results := [.lit (.bool false)], args := [d] }
  | _ => none }
def FnExactTidyWrongFalsely : Prop := fnExactTidyRow.holds Try.pinned (OpenSpec.ofChange fnExactTidyWrong)

/-- 'laws.FnExactSubOk': WHATEVER THE INPUT: true; the input reads as it did. -/
def fnExactSubOkSpec : ChangeSpec := { name := "fnExactSubOk", fn := fun _ => fun
  | [d] => { results := [.lit (.bool true)], args := [d] }
  | _ => none }
def fnExactSubOkRow : OpenClaim := { program := "ytjcgfbjdailgoaa", sum := "26542db460c8a078384b07ab4d5a6e7265dbdb6e9e2d8f4c08cd66e7016e6f42", func := "loop.example/g00323/laws.FnExactSubOk", spec := "fnExactSubOk", unfollowed := true, recurses := true, loops := true, apart := false }
def FnExactSubOkSaid : Prop := fnExactSubOkRow.holds Try.pinned (OpenSpec.ofChange fnExactSubOkSpec)

/-- ITS FALSE NEIGHBOUR: 'it returns false'. Refute it at one input. -/
def fnExactSubOkWrong : ChangeSpec := { name := "fnExactSubOk", fn := fun _ => fun
  | [d] => { results := [.lit (.bool false)], args := [d] }
  | _ => none }
def FnExactSubOkWrongFalsely : Prop := fnExactSubOkRow.holds Try.pinned (OpenSpec.ofChange fnExactSubOkWrong)

/-- 'laws.FnExactGeneric': WHATEVER THE INPUT: true; the input reads as it did. -/
def fnExactGenericSpec : ChangeSpec := { name := "fnExactGeneric", fn := fun _ => fun
  | [d1, d2] => { results := [.lit (.bool true)], args := [d1, d2] }
  | _ => none }
def fnExactGenericRow : OpenClaim := { program := "ytjcgfbjdailgoaa", sum := "26542db460c8a078384b07ab4d5a6e7265dbdb6e9e2d8f4c08cd66e7016e6f42", func := "loop.example/g00323/laws.FnExactGeneric", spec := "fnExactGeneric", unfollowed := true, recurses := true, loops := true, apart := false }
def FnExactGenericSaid : Prop := fnExactGenericRow.holds Try.pinned (OpenSpec.ofChange fnExactGenericSpec)

/-- ITS FALSE NEIGHBOUR: 'it returns false'. Refute it at one input. -/
def fnExactGenericWrong : ChangeSpec := { name := "fnExactGeneric", fn := fun _ => fun
  | [d1, d2] => { results := [.lit (.bool false)], args := [d1, d2] }
  | _ => none }
def FnExactGenericWrongFalsely : Prop := fnExactGenericRow.holds Try.pinned (OpenSpec.ofChange fnExactGenericWrong)

/-- 'laws.FnExactTrees': WHATEVER THE INPUT: true; the input reads as it did. -/
def fnExactTreesSpec : ChangeSpec := { name := "fnExactTrees", fn := fun _ => fun
  | [d1, d2] => { results := [.lit (.bool true)], args := [d1, d2] }
  | _ => none }
def fnExactTreesRow : OpenClaim := { program := "ytjcgfbjdailgoaa", sum := "26542db460c8a078384b07ab4d5a6e7265dbdb6e9e2d8f4c08cd66e7016e6f42", func := "loop.example/g00323/laws.FnExactTrees", spec := "fnExactTrees", unfollowed := true, recurses := true, loops := true, apart := false }
def FnExactTreesSaid : Prop := fnExactTreesRow.holds Try.pinned (OpenSpec.ofChange fnExactTreesSpec)

/-- ITS FALSE NEIGHBOUR: 'it returns false'. Refute it at one input. -/
def fnExactTreesWrong : ChangeSpec := { name := "fnExactTrees", fn := fun _ => fun
  | [d1, d2] => { results := [.lit (.bool false)], args := [d1, d2] }
  | _ => none }
def FnExactTreesWrongFalsely : Prop := fnExactTreesRow.holds Try.pinned (OpenSpec.ofChange fnExactTreesWrong)

/- THE SECOND FORM. 'bulk': how many values and letters a reading holds, each counted each time it is reached (what is shared counts as often as it is met; a slice's spare places count too). A statement '..UptoSaid' is the law's where the arguments, and the package variables that the reading takes, are together of bulk at most 1048576: NARROWER than '..Said'. Prove '..Said' where nothing that the law and all that it calls make is longer than what came in: it says more and counts as full. Else prove '..UptoSaid'. A law counts once. -/
mutual
def uptoBulk {H : Type} : DataW H → Nat
  | .lit (.string bytes) => bytes.length + 1
  | .lit _ => 1
  | .nil => 1
  | .ptr d => uptoBulk d + 1
  | .slice elems spare => uptoBulkAll elems + uptoBulkAll spare + 1
  | .agg parts => uptoBulkAll parts + 1
  | .iface _ d => uptoBulk d + 1
  | .map entries => uptoBulkEntries entries + 1
  | .held _ => 1
def uptoBulkAll {H : Type} : List (DataW H) → Nat
  | [] => 0
  | d :: r => uptoBulk d + uptoBulkAll r
def uptoBulkEntries {H : Type} : List (Lit × DataW H) → Nat
  | [] => 0
  | x :: r => uptoBulkEntry x + uptoBulkEntries r
def uptoBulkEntry {H : Type} : Lit × DataW H → Nat
  | (.string bytes, d) => bytes.length + uptoBulk d + 1
  | (_, d) => uptoBulk d + 1
 end
def uptoSmall : (H : Type) → List (DataW H) → Bool := fun _ ds => decide (uptoBulkAll ds ≤ 1048576)
def OpenSpec.upto (s : _root_.Go.ChangeSpec) : _root_.Go.OpenSpec := { _root_.Go.OpenSpec.ofChange s with cond := some uptoSmall }

/-- 'laws.FnExactErase', WHERE WHAT IT READS IS OF BULK AT MOST 1048576: true; the input reads as it did. -/
def fnExactEraseUptoRow : OpenClaim := { program := "ytjcgfbjdailgoaa", sum := "26542db460c8a078384b07ab4d5a6e7265dbdb6e9e2d8f4c08cd66e7016e6f42", func := "loop.example/g00323/laws.FnExactErase", spec := "fnExactErase", recurses := true, loops := true, apart := false, narrowed := true }
def FnExactEraseUptoSaid : Prop := fnExactEraseUptoRow.holds Try.pinned (OpenSpec.upto fnExactEraseSpec)

/-- 'laws.FnExactVerify', WHERE WHAT IT READS IS OF BULK AT MOST 1048576: true; the input reads as it did. -/
def fnExactVerifyUptoRow : OpenClaim := { program := "ytjcgfbjdailgoaa", sum := "26542db460c8a078384b07ab4d5a6e7265dbdb6e9e2d8f4c08cd66e7016e6f42", func := "loop.example/g00323/laws.FnExactVerify", spec := "fnExactVerify", apart := false, narrowed := true }
def FnExactVerifyUptoSaid : Prop := fnExactVerifyUptoRow.holds Try.pinned (OpenSpec.upto fnExactVerifySpec)

/-- 'laws.FnExactDepths', WHERE WHAT IT READS IS OF BULK AT MOST 1048576: true; the input reads as it did. -/
def fnExactDepthsUptoRow : OpenClaim := { program := "ytjcgfbjdailgoaa", sum := "26542db460c8a078384b07ab4d5a6e7265dbdb6e9e2d8f4c08cd66e7016e6f42", func := "loop.example/g00323/laws.FnExactDepths", spec := "fnExactDepths", apart := false, narrowed := true }
def FnExactDepthsUptoSaid : Prop := fnExactDepthsUptoRow.holds Try.pinned (OpenSpec.upto fnExactDepthsSpec)

/-- 'laws.FnExactTreeOk', WHERE WHAT IT READS IS OF BULK AT MOST 1048576: true; the input reads as it did. -/
def fnExactTreeOkUptoRow : OpenClaim := { program := "ytjcgfbjdailgoaa", sum := "26542db460c8a078384b07ab4d5a6e7265dbdb6e9e2d8f4c08cd66e7016e6f42", func := "loop.example/g00323/laws.FnExactTreeOk", spec := "fnExactTreeOk", unfollowed := true, recurses := true, loops := true, apart := false, narrowed := true }
def FnExactTreeOkUptoSaid : Prop := fnExactTreeOkUptoRow.holds Try.pinned (OpenSpec.upto fnExactTreeOkSpec)

/-- 'laws.FnExactFreeVars', WHERE WHAT IT READS IS OF BULK AT MOST 1048576: true; the input reads as it did. -/
def fnExactFreeVarsUptoRow : OpenClaim := { program := "ytjcgfbjdailgoaa", sum := "26542db460c8a078384b07ab4d5a6e7265dbdb6e9e2d8f4c08cd66e7016e6f42", func := "loop.example/g00323/laws.FnExactFreeVars", spec := "fnExactFreeVars", recurses := true, loops := true, apart := false, narrowed := true }
def FnExactFreeVarsUptoSaid : Prop := fnExactFreeVarsUptoRow.holds Try.pinned (OpenSpec.upto fnExactFreeVarsSpec)

/-- 'laws.FnExactMissing', WHERE WHAT IT READS IS OF BULK AT MOST 1048576: true; the input reads as it did. -/
def fnExactMissingUptoRow : OpenClaim := { program := "ytjcgfbjdailgoaa", sum := "26542db460c8a078384b07ab4d5a6e7265dbdb6e9e2d8f4c08cd66e7016e6f42", func := "loop.example/g00323/laws.FnExactMissing", spec := "fnExactMissing", unfollowed := true, recurses := true, loops := true, apart := false, narrowed := true }
def FnExactMissingUptoSaid : Prop := fnExactMissingUptoRow.holds Try.pinned (OpenSpec.upto fnExactMissingSpec)

/-- 'laws.FnExactUseful', WHERE WHAT IT READS IS OF BULK AT MOST 1048576: true; the input reads as it did. -/
def fnExactUsefulUptoRow : OpenClaim := { program := "ytjcgfbjdailgoaa", sum := "26542db460c8a078384b07ab4d5a6e7265dbdb6e9e2d8f4c08cd66e7016e6f42", func := "loop.example/g00323/laws.FnExactUseful", spec := "fnExactUseful", unfollowed := true, recurses := true, loops := true, apart := false, narrowed := true }
def FnExactUsefulUptoSaid : Prop := fnExactUsefulUptoRow.holds Try.pinned (OpenSpec.upto fnExactUsefulSpec)

/-- 'laws.FnExactIdle', WHERE WHAT IT READS IS OF BULK AT MOST 1048576: true; the input reads as it did. -/
def fnExactIdleUptoRow : OpenClaim := { program := "ytjcgfbjdailgoaa", sum := "26542db460c8a078384b07ab4d5a6e7265dbdb6e9e2d8f4c08cd66e7016e6f42", func := "loop.example/g00323/laws.FnExactIdle", spec := "fnExactIdle", unfollowed := true, recurses := true, loops := true, apart := false, narrowed := true }
def FnExactIdleUptoSaid : Prop := fnExactIdleUptoRow.holds Try.pinned (OpenSpec.upto fnExactIdleSpec)

/-- 'laws.FnExactTidy', WHERE WHAT IT READS IS OF BULK AT MOST 1048576: true; the input reads as it did. -/
def fnExactTidyUptoRow : OpenClaim := { program := "ytjcgfbjdailgoaa", sum := "26542db460c8a078384b07ab4d5a6e7265dbdb6e9e2d8f4c08cd66e7016e6f42", func := "loop.example/g00323/laws.FnExactTidy", spec := "fnExactTidy", unfollowed := true, recurses := true, loops := true, apart := false, narrowed := true }
def FnExactTidyUptoSaid : Prop := fnExactTidyUptoRow.holds Try.pinned (OpenSpec.upto fnExactTidySpec)

/-- 'laws.FnExactSubOk', WHERE WHAT IT READS IS OF BULK AT MOST 1048576: true; the input reads as it did. -/
def fnExactSubOkUptoRow : OpenClaim := { program := "ytjcgfbjdailgoaa", sum := "26542db460c8a078384b07ab4d5a6e7265dbdb6e9e2d8f4c08cd66e7016e6f42", func := "loop.example/g00323/laws.FnExactSubOk", spec := "fnExactSubOk", unfollowed := true, recurses := true, loops := true, apart := false, narrowed := true }
def FnExactSubOkUptoSaid : Prop := fnExactSubOkUptoRow.holds Try.pinned (OpenSpec.upto fnExactSubOkSpec)

/-- 'laws.FnExactGeneric', WHERE WHAT IT READS IS OF BULK AT MOST 1048576: true; the input reads as it did. -/
def fnExactGenericUptoRow : OpenClaim := { program := "ytjcgfbjdailgoaa", sum := "26542db460c8a078384b07ab4d5a6e7265dbdb6e9e2d8f4c08cd66e7016e6f42", func := "loop.example/g00323/laws.FnExactGeneric", spec := "fnExactGeneric", unfollowed := true, recurses := true, loops := true, apart := false, narrowed := true }
def FnExactGenericUptoSaid : Prop := fnExactGenericUptoRow.holds Try.pinned (OpenSpec.upto fnExactGenericSpec)

/-- 'laws.FnExactTrees', WHERE WHAT IT READS IS OF BULK AT MOST 1048576: true; the input reads as it did. -/
def fnExactTreesUptoRow : OpenClaim := { program := "ytjcgfbjdailgoaa", sum := "26542db460c8a078384b07ab4d5a6e7265dbdb6e9e2d8f4c08cd66e7016e6f42", func := "loop.example/g00323/laws.FnExactTrees", spec := "fnExactTrees", unfollowed := true, recurses := true, loops := true, apart := false, narrowed := true }
def FnExactTreesUptoSaid : Prop := fnExactTreesUptoRow.holds Try.pinned (OpenSpec.upto fnExactTreesSpec)

end Rows
end Go.Proofs.Ytjcgfbjdailgoaa
