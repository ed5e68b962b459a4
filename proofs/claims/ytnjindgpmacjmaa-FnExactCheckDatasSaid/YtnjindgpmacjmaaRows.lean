/-
  NARROWER THAN 'FOR EVERY INPUT', by the rows' own cells (each row's printed sentence says how): FnExactAt: loops · FnExactTagCon: loops · FnExactConTag: loops · FnExactConOf: loops · FnExactTyShown: loops · FnExactRunTree: loops · FnExactBlocksOk: loops · FnExactApply: loops · FnExactInstance: loops · FnExactCheckDatas: loops · FnExactValueOk: loops.
  DERIVED. THE GIVEN ROWS OF THIS SEAT. 12 by the template 'for every input the law returns true; each argument reads behind the call as it read before'; 0 by the template 'total and deterministic' (their statements: YtnjindgpmacjmaaTotals.lean).
  GIVEN WITH THE SEED: the statements are not yours to turn. If you find one false, say at which input.
  Laid BY PROGRAM, IN A SANDBOX (cutbox-rows.mjs): the forced cells as the released guide's own fill.sh prints them over the translation 87e313cca9775e58… (all of the seat's roots in one cut). By AI agents, Wed Nov 11 2026. No macro, syntax, notation, axiom, sorry.
-/
import Derived.Test.YtnjindgpmacjmaaChecked
import GoSem.Claim
import GoSem.ClaimJoined
import GoSem.ClaimMapViews
import Derived.JoinedTies
import Derived.KernelRfl
namespace Go.Proofs.Ytnjindgpmacjmaa
/- THE CELL 'sum', in the pinned program and in every row, IS THE sha256 OF THE DUMP (.gsa) THAT YtnjindgpmacjmaaProg.lean LOADS. Nothing in Lean hashes anything: it is a label: what it is worth is what the hold of that sum in a sandbox is worth. -/
noncomputable def Try.pinned : Pinned := { name := "ytnjindgpmacjmaa", sum := "87e313cca9775e58ac72634be268e79e1b062abc4c17f19c2ac48a4e240379e4", checked := Try.checked }
namespace Rows
def none {H : Type} : Left H := { results := [], args := [] }

/-- 'laws.FnExactAt': WHATEVER THE INPUT: true; the input reads as it did. -/
def fnExactAtSpec : ChangeSpec := { name := "fnExactAt", fn := fun _ => fun
  | [d1, d2] => { results := [.lit (.bool true)], args := [d1, d2] }
  | _ => none }
def fnExactAtRow : OpenClaim := { program := "ytnjindgpmacjmaa", sum := "87e313cca9775e58ac72634be268e79e1b062abc4c17f19c2ac48a4e240379e4", func := "loop.example/g00323/laws.FnExactAt", spec := "fnExactAt", recurses := true, loops := true, apart := false }
def FnExactAtSaid : Prop := fnExactAtRow.holds Try.pinned (OpenSpec.ofChange fnExactAtSpec)

/-- ITS FALSE NEIGHBOUR: 'it returns false'. Refute it at one input. -/
def fnExactAtWrong : ChangeSpec := { name := "fnExactAt", fn := fun _ => fun
  | [d1, d2] => { results := [.lit (.bool false)], args := [d1, d2] }
  | _ => none }
def FnExactAtWrongFalsely : Prop := fnExactAtRow.holds Try.pinned (OpenSpec.ofChange fnExactAtWrong)

/-- 'laws.FnExactFunsOk': WHATEVER THE INPUT: true; the input reads as it did. -/
def fnExactFunsOkSpec : ChangeSpec := { name := "fnExactFunsOk", fn := fun _ => fun
  | [d] => { results := [.lit (.bool true)], args := [d] }
  | _ => none }
def fnExactFunsOkRow : OpenClaim := { program := "ytnjindgpmacjmaa", sum := "87e313cca9775e58ac72634be268e79e1b062abc4c17f19c2ac48a4e240379e4", func := "loop.example/g00323/laws.FnExactFunsOk", spec := "fnExactFunsOk", apart := false }
def FnExactFunsOkSaid : Prop := fnExactFunsOkRow.holds Try.pinned (OpenSpec.ofChange fnExactFunsOkSpec)

/-- ITS FALSE NEIGHBOUR: 'it returns false'. Refute it at one input. -/
def fnExactFunsOkWrong : ChangeSpec := { name := "fnExactFunsOk", fn := fun _ => fun
  | [d] => { results := [.lit (.bool false)], args := [d] }
  | _ => none }
def FnExactFunsOkWrongFalsely : Prop := fnExactFunsOkRow.holds Try.pinned (OpenSpec.ofChange fnExactFunsOkWrong)

/-- 'laws.FnExactTagCon': WHATEVER THE INPUT: true; the input reads as it did. -/
def fnExactTagConSpec : ChangeSpec := { name := "fnExactTagCon", fn := fun _ => fun
  | [d1, d2] => { results := [.lit (.bool true)], args := [d1, d2] }
  | _ => none }
def fnExactTagConRow : OpenClaim := { program := "ytnjindgpmacjmaa", sum := "87e313cca9775e58ac72634be268e79e1b062abc4c17f19c2ac48a4e240379e4", func := "loop.example/g00323/laws.FnExactTagCon", spec := "fnExactTagCon", recurses := true, loops := true, apart := false }
def FnExactTagConSaid : Prop := fnExactTagConRow.holds Try.pinned (OpenSpec.ofChange fnExactTagConSpec)

/-- ITS FALSE NEIGHBOUR: 'it returns false'. Refute it at one input. -/
def fnExactTagConWrong : ChangeSpec := { name := "fnExactTagCon", fn := fun _ => fun
  | [d1, d2] => { results := [.lit (.bool false)], args := [d1, d2] }
  | _ => none }
def FnExactTagConWrongFalsely : Prop := fnExactTagConRow.holds Try.pinned (OpenSpec.ofChange fnExactTagConWrong)

/-- 'laws.FnExactConTag': WHATEVER THE INPUT: true; the input reads as it did. -/
def fnExactConTagSpec : ChangeSpec := { name := "fnExactConTag", fn := fun _ => fun
  | [d1, d2] => { results := [.lit (.bool true)], args := [d1, d2] }
  | _ => none }
def fnExactConTagRow : OpenClaim := { program := "ytnjindgpmacjmaa", sum := "87e313cca9775e58ac72634be268e79e1b062abc4c17f19c2ac48a4e240379e4", func := "loop.example/g00323/laws.FnExactConTag", spec := "fnExactConTag", recurses := true, loops := true, apart := false }
def FnExactConTagSaid : Prop := fnExactConTagRow.holds Try.pinned (OpenSpec.ofChange fnExactConTagSpec)

/-- ITS FALSE NEIGHBOUR: 'it returns false'. Refute it at one input. -/
def fnExactConTagWrong : ChangeSpec := { name := "fnExactConTag", fn := fun _ => fun
  | [d1, d2] => { results := [.lit (.bool false)], args := [d1, d2] }
  | _ => none }
def FnExactConTagWrongFalsely : Prop := fnExactConTagRow.holds Try.pinned (OpenSpec.ofChange fnExactConTagWrong)

/-- 'laws.FnExactConOf': WHATEVER THE INPUT: true; the input reads as it did. -/
def fnExactConOfSpec : ChangeSpec := { name := "fnExactConOf", fn := fun _ => fun
  | [d1, d2] => { results := [.lit (.bool true)], args := [d1, d2] }
  | _ => none }
def fnExactConOfRow : OpenClaim := { program := "ytnjindgpmacjmaa", sum := "87e313cca9775e58ac72634be268e79e1b062abc4c17f19c2ac48a4e240379e4", func := "loop.example/g00323/laws.FnExactConOf", spec := "fnExactConOf", unfollowed := true, recurses := true, loops := true, apart := false }
def FnExactConOfSaid : Prop := fnExactConOfRow.holds Try.pinned (OpenSpec.ofChange fnExactConOfSpec)

/-- ITS FALSE NEIGHBOUR: 'it returns false'. Refute it at one input. -/
def fnExactConOfWrong : ChangeSpec := { name := "fnExactConOf", fn := fun _ => fun
  | [d1, d2] => { results := [.lit (.bool false)], args := [d1, d2] }
  | _ => none }
def FnExactConOfWrongFalsely : Prop := fnExactConOfRow.holds Try.pinned (OpenSpec.ofChange fnExactConOfWrong)

/-- 'laws.FnExactTyShown': WHATEVER THE INPUT: true; the input reads as it did. -/
def fnExactTyShownSpec : ChangeSpec := { name := "fnExactTyShown", fn := fun _ => fun
  | [d] => { results := [.lit (.bool true)], args := [d] }
  | _ => none }
def fnExactTyShownRow : OpenClaim := { program := "ytnjindgpmacjmaa", sum := "87e313cca9775e58ac72634be268e79e1b062abc4c17f19c2ac48a4e240379e4", func := "loop.example/g00323/laws.FnExactTyShown", spec := "fnExactTyShown", recurses := true, loops := true, apart := false }
def FnExactTyShownSaid : Prop := fnExactTyShownRow.holds Try.pinned (OpenSpec.ofChange fnExactTyShownSpec)

/-- ITS FALSE NEIGHBOUR: 'it returns false'. Refute it at one input. -/
def fnExactTyShownWrong : ChangeSpec := { name := "fnExactTyShown", fn := fun _ => fun
  | [d] => { results := [.lit (.bool false)], args := [d] }
  | _ => none }
def FnExactTyShownWrongFalsely : Prop := fnExactTyShownRow.holds Try.pinned (OpenSpec.ofChange fnExactTyShownWrong)

/-- 'laws.FnExactRunTree': WHATEVER THE INPUT: true; the input reads as it did. -/
def fnExactRunTreeSpec : ChangeSpec := { name := "fnExactRunTree", fn := fun _ => fun
  | [d1, d2] => { results := [.lit (.bool true)], args := [d1, d2] }
  | _ => none }
def fnExactRunTreeRow : OpenClaim := { program := "ytnjindgpmacjmaa", sum := "87e313cca9775e58ac72634be268e79e1b062abc4c17f19c2ac48a4e240379e4", func := "loop.example/g00323/laws.FnExactRunTree", spec := "fnExactRunTree", recurses := true, loops := true, apart := false }
def FnExactRunTreeSaid : Prop := fnExactRunTreeRow.holds Try.pinned (OpenSpec.ofChange fnExactRunTreeSpec)

/-- ITS FALSE NEIGHBOUR: 'it returns false'. Refute it at one input. -/
def fnExactRunTreeWrong : ChangeSpec := { name := "fnExactRunTree", fn := fun _ => fun
  | [d1, d2] => { results := [.lit (.bool false)], args := [d1, d2] }
  | _ => none }
def FnExactRunTreeWrongFalsely : Prop := fnExactRunTreeRow.holds Try.pinned (OpenSpec.ofChange fnExactRunTreeWrong)

/-- 'laws.FnExactBlocksOk': WHATEVER THE INPUT: true; the input reads as it did. -/
def fnExactBlocksOkSpec : ChangeSpec := { name := "fnExactBlocksOk", fn := fun _ => fun
  | [d] => { results := [.lit (.bool true)], args := [d] }
  | _ => none }
def fnExactBlocksOkRow : OpenClaim := { program := "ytnjindgpmacjmaa", sum := "87e313cca9775e58ac72634be268e79e1b062abc4c17f19c2ac48a4e240379e4", func := "loop.example/g00323/laws.FnExactBlocksOk", spec := "fnExactBlocksOk", recurses := true, loops := true, apart := false }
def FnExactBlocksOkSaid : Prop := fnExactBlocksOkRow.holds Try.pinned (OpenSpec.ofChange fnExactBlocksOkSpec)

/-- ITS FALSE NEIGHBOUR: 'it returns false'. Refute it at one input. -/
def fnExactBlocksOkWrong : ChangeSpec := { name := "fnExactBlocksOk", fn := fun _ => fun
  | [d] => { results := [.lit (.bool false)], args := [d] }
  | _ => none }
def FnExactBlocksOkWrongFalsely : Prop := fnExactBlocksOkRow.holds Try.pinned (OpenSpec.ofChange fnExactBlocksOkWrong)

/-- 'laws.FnExactApply': WHATEVER THE INPUT: true; the input reads as it did. -/
def fnExactApplySpec : ChangeSpec := { name := "fnExactApply", fn := fun _ => fun
  | [d1, d2] => { results := [.lit (.bool true)], args := [d1, d2] }
  | _ => none }
def fnExactApplyRow : OpenClaim := { program := "ytnjindgpmacjmaa", sum := "87e313cca9775e58ac72634be268e79e1b062abc4c17f19c2ac48a4e240379e4", func := "loop.example/g00323/laws.FnExactApply", spec := "fnExactApply", unfollowed := true, recurses := true, loops := true, apart := false }
def FnExactApplySaid : Prop := fnExactApplyRow.holds Try.pinned (OpenSpec.ofChange fnExactApplySpec)

/-- ITS FALSE NEIGHBOUR: 'it returns false'. Refute it at one input. -/
def fnExactApplyWrong : ChangeSpec := { name := "fnExactApply", fn := fun _ => fun
  | [d1, d2] => { results := [.lit (.bool false)], args := [d1, d2] }
  | _ => none }
def FnExactApplyWrongFalsely : Prop := fnExactApplyRow.holds Try.pinned (OpenSpec.ofChange fnExactApplyWrong)

/-- 'laws.FnExactInstance': WHATEVER THE INPUT: true; the input reads as it did. -/
def fnExactInstanceSpec : ChangeSpec := { name := "fnExactInstance", fn := fun _ => fun
  | [d1, d2] => { results := [.lit (.bool true)], args := [d1, d2] }
  | _ => none }
def fnExactInstanceRow : OpenClaim := { program := "ytnjindgpmacjmaa", sum := "87e313cca9775e58ac72634be268e79e1b062abc4c17f19c2ac48a4e240379e4", func := "loop.example/g00323/laws.FnExactInstance", spec := "fnExactInstance", recurses := true, loops := true, apart := false }
def FnExactInstanceSaid : Prop := fnExactInstanceRow.holds Try.pinned (OpenSpec.ofChange fnExactInstanceSpec)

/-- ITS FALSE NEIGHBOUR: 'it returns false'. Refute it at one input. -/
def fnExactInstanceWrong : ChangeSpec := { name := "fnExactInstance", fn := fun _ => fun
  | [d1, d2] => { results := [.lit (.bool false)], args := [d1, d2] }
  | _ => none }
def FnExactInstanceWrongFalsely : Prop := fnExactInstanceRow.holds Try.pinned (OpenSpec.ofChange fnExactInstanceWrong)

/-- 'laws.FnExactCheckDatas': WHATEVER THE INPUT: true; the input reads as it did. -/
def fnExactCheckDatasSpec : ChangeSpec := { name := "fnExactCheckDatas", fn := fun _ => fun
  | [d] => { results := [.lit (.bool true)], args := [d] }
  | _ => none }
def fnExactCheckDatasRow : OpenClaim := { program := "ytnjindgpmacjmaa", sum := "87e313cca9775e58ac72634be268e79e1b062abc4c17f19c2ac48a4e240379e4", func := "loop.example/g00323/laws.FnExactCheckDatas", spec := "fnExactCheckDatas", unfollowed := true, recurses := true, loops := true, apart := false }
def FnExactCheckDatasSaid : Prop := fnExactCheckDatasRow.holds Try.pinned (OpenSpec.ofChange fnExactCheckDatasSpec)

/-- ITS FALSE NEIGHBOUR: 'it returns false'. Refute it at one input. -/
def fnExactCheckDatasWrong : ChangeSpec := { name := "fnExactCheckDatas", fn := fun _ => fun
  | [d] => { results := [.lit (.bool false)], args := [d] }
  | _ => none }
def FnExactCheckDatasWrongFalsely : Prop := fnExactCheckDatasRow.holds Try.pinned (OpenSpec.ofChange fnExactCheckDatasWrong)

/-- 'laws.FnExactValueOk': WHATEVER THE INPUT: true; the input reads as it did. -/
def fnExactValueOkSpec : ChangeSpec := { name := "fnExactValueOk", fn := fun _ => fun
  | [d1, d2] => { results := [.lit (.bool true)], args := [d1, d2] }
  | _ => none }
def fnExactValueOkRow : OpenClaim := { program := "ytnjindgpmacjmaa", sum := "87e313cca9775e58ac72634be268e79e1b062abc4c17f19c2ac48a4e240379e4", func := "loop.example/g00323/laws.FnExactValueOk", spec := "fnExactValueOk", unfollowed := true, recurses := true, loops := true, apart := false }
def FnExactValueOkSaid : Prop := fnExactValueOkRow.holds Try.pinned (OpenSpec.ofChange fnExactValueOkSpec)

/-- ITS FALSE NEIGHBOUR: 'it returns false'. Refute it at one input. -/
def fnExactValueOkWrong : ChangeSpec := { name := "fnExactValueOk", fn := fun _ => fun
  | [d1, d2] => { results := [.lit (.bool false)], args := [d1, d2] }
  | _ => none }
def FnExactValueOkWrongFalsely : Prop := fnExactValueOkRow.holds Try.pinned (OpenSpec.ofChange fnExactValueOkWrong)

/- THE SECOND FORM. 'bulk': how many values and letters a reading holds, each counted each time it is reached (what is shared counts as often as it is met; a slice's spare places count too). A statement '..UptoSaid' is the law's where the arguments, and the package variables that the reading takes, are together of bulk at most 1048576: NARROWER than '..Said'. Prove '..Said' where nothing that the law and all that it calls make is longer than what came in: it says more and counts as full. Else prove '..UptoSaid'. A law counts once. -/
mutual
def uptoBulk {H : Type} : DataW H → Nat
  | .lit (.string bytes) => bytes.length + 1
  | .lit _ => 1
  | .nil => 1
  | .ptr d => uptoBulk d + 1
  | .slice elems spare => uptoBulkAll elems + uptoBulkAll spare + 1
  | .agg parts => uptoBulkAll parts + 1
  | .iface _ d => uptoBulk d + 1
  | .map entries => uptoBulkEntries entries + 1
  | .held _ => 1
def uptoBulkAll {H : Type} : List (DataW H) → Nat
  | [] => 0
  | d :: r => uptoBulk d + uptoBulkAll r
def uptoBulkEntries {H : Type} : List (Lit × DataW H) → Nat
  | [] => 0
  | x :: r => uptoBulkEntry x + uptoBulkEntries r
def uptoBulkEntry {H : Type} : Lit × DataW H → Nat
  | (.string bytes, d) => bytes.length + uptoBulk d + 1
  | (_, d) => uptoBulk d + 1
 end
def uptoSmall : (H : Type) → List (DataW H) → Bool := fun _ ds => decide (uptoBulkAll ds ≤ 1048576)
def OpenSpec.upto (s : _root_.Go.ChangeSpec) : _root_.Go.OpenSpec := { _root_.Go.OpenSpec.ofChange s with cond := some uptoSmall }

/-- 'laws.FnExactAt', WHERE WHAT IT READS IS OF BULK AT MOST 1048576: true; the input reads as it did. -/
def fnExactAtUptoRow : OpenClaim := { program := "ytnjindgpmacjmaa", sum := "87e313cca9775e58ac72634be268e79e1b062abc4c17f19c2ac48a4e240379e4", func := "loop.example/g00323/laws.FnExactAt", spec := "fnExactAt", recurses := true, loops := true, apart := false, narrowed := true }
def FnExactAtUptoSaid : Prop := fnExactAtUptoRow.holds Try.pinned (OpenSpec.upto fnExactAtSpec)

/-- 'laws.FnExactFunsOk', WHERE WHAT IT READS IS OF BULK AT MOST 1048576: true; the input reads as it did. -/
def fnExactFunsOkUptoRow : OpenClaim := { program := "ytnjindgpmacjmaa", sum := "87e313cca9775e58ac72634be268e79e1b062abc4c17f19c2ac48a4e240379e4", func := "loop.example/g00323/laws.FnExactFunsOk", spec := "fnExactFunsOk", apart := false, narrowed := true }
def FnExactFunsOkUptoSaid : Prop := fnExactFunsOkUptoRow.holds Try.pinned (OpenSpec.upto fnExactFunsOkSpec)

/-- 'laws.FnExactTagCon', WHERE WHAT IT READS IS OF BULK AT MOST 1048576: true; the input reads as it did. -/
def fnExactTagConUptoRow : OpenClaim := { program := "ytnjindgpmacjmaa", sum := "87e313cca9775e58ac72634be268e79e1b062abc4c17f19c2ac48a4e240379e4", func := "loop.example/g00323/laws.FnExactTagCon", spec := "fnExactTagCon", recurses := true, loops := true, apart := false, narrowed := true }
def FnExactTagConUptoSaid : Prop := fnExactTagConUptoRow.holds Try.pinned (OpenSpec.upto fnExactTagConSpec)

/-- 'laws.FnExactConTag', WHERE WHAT IT READS IS OF BULK AT MOST 1048576: true; the input reads as it did. -/
def fnExactConTagUptoRow : OpenClaim := { program := "ytnjindgpmacjmaa", sum := "87e313cca9775e58ac72634be268e79e1b062abc4c17f19c2ac48a4e240379e4", func := "loop.example/g00323/laws.FnExactConTag", spec := "fnExactConTag", recurses := true, loops := true, apart := false, narrowed := true }
def FnExactConTagUptoSaid : Prop := fnExactConTagUptoRow.holds Try.pinned (OpenSpec.upto fnExactConTagSpec)

/-- 'laws.FnExactConOf', WHERE WHAT IT READS IS OF BULK AT MOST 1048576: true; the input reads as it did. -/
def fnExactConOfUptoRow : OpenClaim := { program := "ytnjindgpmacjmaa", sum := "87e313cca9775e58ac72634be268e79e1b062abc4c17f19c2ac48a4e240379e4", func := "loop.example/g00323/laws.FnExactConOf", spec := "fnExactConOf", unfollowed := true, recurses := true, loops := true, apart := false, narrowed := true }
def FnExactConOfUptoSaid : Prop := fnExactConOfUptoRow.holds Try.pinned (OpenSpec.upto fnExactConOfSpec)

/-- 'laws.FnExactTyShown', WHERE WHAT IT READS IS OF BULK AT MOST 1048576: true; the input reads as it did. -/
def fnExactTyShownUptoRow : OpenClaim := { program := "ytnjindgpmacjmaa", sum := "87e313cca9775e58ac72634be268e79e1b062abc4c17f19c2ac48a4e240379e4", func := "loop.example/g00323/laws.FnExactTyShown", spec := "fnExactTyShown", recurses := true, loops := true, apart := false, narrowed := true }
def FnExactTyShownUptoSaid : Prop := fnExactTyShownUptoRow.holds Try.pinned (OpenSpec.upto fnExactTyShownSpec)

/-- 'laws.FnExactRunTree', WHERE WHAT IT READS IS OF BULK AT MOST 1048576: true; the input reads as it did. -/
def fnExactRunTreeUptoRow : OpenClaim := { program := "ytnjindgpmacjmaa", sum := "87e313cca9775e58ac72634be268e79e1b062abc4c17f19c2ac48a4e240379e4", func := "loop.example/g00323/laws.FnExactRunTree", spec := "fnExactRunTree", recurses := true, loops := true, apart := false, narrowed := true }
def FnExactRunTreeUptoSaid : Prop := fnExactRunTreeUptoRow.holds Try.pinned (OpenSpec.upto fnExactRunTreeSpec)

/-- 'laws.FnExactBlocksOk', WHERE WHAT IT READS IS OF BULK AT MOST 1048576: true; the input reads as it did. -/
def fnExactBlocksOkUptoRow : OpenClaim := { program := "ytnjindgpmacjmaa", sum := "87e313cca9775e58ac72634be268e79e1b062abc4c17f19c2ac48a4e240379e4", func := "loop.example/g00323/laws.FnExactBlocksOk", spec := "fnExactBlocksOk", recurses := true, loops := true, apart := false, narrowed := true }
def FnExactBlocksOkUptoSaid : Prop := fnExactBlocksOkUptoRow.holds Try.pinned (OpenSpec.upto fnExactBlocksOkSpec)

/-- 'laws.FnExactApply', WHERE WHAT IT READS IS OF BULK AT MOST 1048576: true; the input reads as it did. -/
def fnExactApplyUptoRow : OpenClaim := { program := "ytnjindgpmacjmaa", sum := "87e313cca9775e58ac72634be268e79e1b062abc4c17f19c2ac48a4e240379e4", func := "loop.example/g00323/laws.FnExactApply", spec := "fnExactApply", unfollowed := true, recurses := true, loops := true, apart := false, narrowed := true }
def FnExactApplyUptoSaid : Prop := fnExactApplyUptoRow.holds Try.pinned (OpenSpec.upto fnExactApplySpec)

/-- 'laws.FnExactInstance', WHERE WHAT IT READS IS OF BULK AT MOST 1048576: true; the input reads as it did. -/
def fnExactInstanceUptoRow : OpenClaim := { program := "ytnjindgpmacjmaa", sum := "87e313cca9775e58ac72634be268e79e1b062abc4c17f19c2ac48a4e240379e4", func := "loop.example/g00323/laws.FnExactInstance", spec := "fnExactInstance", recurses := true, loops := true, apart := false, narrowed := true }
def FnExactInstanceUptoSaid : Prop := fnExactInstanceUptoRow.holds Try.pinned (OpenSpec.upto fnExactInstanceSpec)

/-- 'laws.FnExactCheckDatas', WHERE WHAT IT READS IS OF BULK AT MOST 1048576: true; the input reads as it did. -/
def fnExactCheckDatasUptoRow : OpenClaim := { program := "ytnjindgpmacjmaa", sum := "87e313cca9775e58ac72634be268e79e1b062abc4c17f19c2ac48a4e240379e4", func := "loop.example/g00323/laws.FnExactCheckDatas", spec := "fnExactCheckDatas", unfollowed := true, recurses := true, loops := true, apart := false, narrowed := true }
def FnExactCheckDatasUptoSaid : Prop := fnExactCheckDatasUptoRow.holds Try.pinned (OpenSpec.upto fnExactCheckDatasSpec)

/-- 'laws.FnExactValueOk', WHERE WHAT IT READS IS OF BULK AT MOST 1048576: true; the input reads as it did. -/
def fnExactValueOkUptoRow : OpenClaim := { program := "ytnjindgpmacjmaa", sum := "87e313cca9775e58ac72634be268e79e1b062abc4c17f19c2ac48a4e240379e4", func := "loop.example/g00323/laws.FnExactValueOk", spec := "fnExactValueOk", unfollowed := true, recurses := true, loops := true, apart := false, narrowed := true }
def FnExactValueOkUptoSaid : Prop := fnExactValueOkUptoRow.holds Try.pinned (OpenSpec.upto fnExactValueOkSpec)

end Rows
end Go.Proofs.Ytnjindgpmacjmaa
