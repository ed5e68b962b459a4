/-
  NARROWER THAN 'FOR EVERY INPUT', by the rows' own cells (each row's printed sentence says how): FnExactIrSize: loops · FnExactTySize: loops · FnExactSame: loops · FnExactDeep: loops · FnExactTyText: loops · FnExactTyOk: loops · FnExactValueText: loops · FnExactFits: loops.
  DERIVED. THE GIVEN ROWS OF THIS SEAT. 12 by the template 'for every input the law returns true; each argument reads behind the call as it read before'; 0 by the template 'total and deterministic' (their statements: YtdcchfpgpdekmaaTotals.lean).
  GIVEN WITH THE SEED: the statements are not yours to turn. If you find one false, say at which input.
  Laid BY PROGRAM, IN A SANDBOX (cutbox-rows.mjs): the forced cells as the released guide's own fill.sh prints them over the translation 1ed1670e8d1cb12b… (all of the seat's roots in one cut). By AI agents, Wed Nov 11 2026. No macro, syntax, notation, axiom, sorry.
-/
import Derived.Test.YtdcchfpgpdekmaaChecked
import GoSem.Claim
import GoSem.ClaimJoined
import GoSem.ClaimMapViews
import Derived.JoinedTies
import Derived.KernelRfl
namespace Go.Proofs.Ytdcchfpgpdekmaa
/- THE CELL 'sum', in the pinned program and in every row, IS THE sha256 OF THE DUMP (.gsa) THAT YtdcchfpgpdekmaaProg.lean LOADS. Nothing in Lean hashes anything: it is a label: what it is worth is what the hold of that sum in a sandbox is worth. -/
noncomputable def Try.pinned : Pinned := { name := "ytdcchfpgpdekmaa", sum := "1ed1670e8d1cb12b9ed6ca11152837cc9b9a6eaef99d18e3edd8de35822bac30", checked := Try.checked }
namespace Rows
def none {H : Type} : Left H := { results := [], args := [] }

/-- 'laws.FnExactNumber': WHATEVER THE INPUT: true; the input reads as it did. -/
def fnExactNumberSpec : ChangeSpec := { name := "fnExactNumber", fn := fun _ => fun
  | [d] => { results := [.lit (.bool true)], args := [d] }
  | _ => none }
def fnExactNumberRow : OpenClaim := { program := "ytdcchfpgpdekmaa", sum := "1ed1670e8d1cb12b9ed6ca11152837cc9b9a6eaef99d18e3edd8de35822bac30", func := "loop.example/g00323/laws.FnExactNumber", spec := "fnExactNumber", apart := false }
def FnExactNumberSaid : Prop := fnExactNumberRow.holds Try.pinned (OpenSpec.ofChange fnExactNumberSpec)

/-- ITS FALSE NEIGHBOUR: 'it returns false'. Refute it at one input. -/
def fnExactNumberWrong : ChangeSpec := { name := "fnExactNumber", fn := fun _ => fun
  | [d] => { results := [.lit (.bool false)], args := [d] }
  | _ => none }
def FnExactNumberWrongFalsely : Prop := fnExactNumberRow.holds Try.pinned (OpenSpec.ofChange fnExactNumberWrong)

/-- 'laws.FnExactOpText': WHATEVER THE INPUT: true; the input reads as it did. -/
def fnExactOpTextSpec : ChangeSpec := { name := "fnExactOpText", fn := fun _ => fun
  | [d] => { results := [.lit (.bool true)], args := [d] }
  | _ => none }
def fnExactOpTextRow : OpenClaim := { program := "ytdcchfpgpdekmaa", sum := "1ed1670e8d1cb12b9ed6ca11152837cc9b9a6eaef99d18e3edd8de35822bac30", func := "loop.example/g00323/laws.FnExactOpText", spec := "fnExactOpText", recurses := true, apart := false }
def FnExactOpTextSaid : Prop := fnExactOpTextRow.holds Try.pinned (OpenSpec.ofChange fnExactOpTextSpec)

/-- ITS FALSE NEIGHBOUR: 'it returns false'. Refute it at one input. -/
def fnExactOpTextWrong : ChangeSpec := { name := "fnExactOpText", fn := fun _ => fun
  | [d] => { results := [.lit (.bool false)], args := [d] }
  | _ => none }
def FnExactOpTextWrongFalsely : Prop := fnExactOpTextRow.holds Try.pinned (OpenSpec.ofChange fnExactOpTextWrong)

/-- 'laws.FnExactIrSize': WHATEVER THE INPUT: true; the input reads as it did. -/
def fnExactIrSizeSpec : ChangeSpec := { name := "fnExactIrSize", fn := fun _ => fun
  | [d] => { results := [.lit (.bool true)], args := [d] }
  | _ => none }
def fnExactIrSizeRow : OpenClaim := { program := "ytdcchfpgpdekmaa", sum := "1ed1670e8d1cb12b9ed6ca11152837cc9b9a6eaef99d18e3edd8de35822bac30", func := "loop.example/g00323/laws.FnExactIrSize", spec := "fnExactIrSize", recurses := true, loops := true, apart := false }
def FnExactIrSizeSaid : Prop := fnExactIrSizeRow.holds Try.pinned (OpenSpec.ofChange fnExactIrSizeSpec)

/-- ITS FALSE NEIGHBOUR: 'it returns false'. Refute it at one input. -/
def fnExactIrSizeWrong : ChangeSpec := { name := "fnExactIrSize", fn := fun _ => fun
  | [d] => { results := [.lit (.bool false)], args := [d] }
  | _ => none }
def FnExactIrSizeWrongFalsely : Prop := fnExactIrSizeRow.holds Try.pinned (OpenSpec.ofChange fnExactIrSizeWrong)

/-- 'laws.FnExactTySize': WHATEVER THE INPUT: true; the input reads as it did. -/
def fnExactTySizeSpec : ChangeSpec := { name := "fnExactTySize", fn := fun _ => fun
  | [d] => { results := [.lit (.bool true)], args := [d] }
  | _ => none }
def fnExactTySizeRow : OpenClaim := { program := "ytdcchfpgpdekmaa", sum := "1ed1670e8d1cb12b9ed6ca11152837cc9b9a6eaef99d18e3edd8de35822bac30", func := "loop.example/g00323/laws.FnExactTySize", spec := "fnExactTySize", recurses := true, loops := true, apart := false }
def FnExactTySizeSaid : Prop := fnExactTySizeRow.holds Try.pinned (OpenSpec.ofChange fnExactTySizeSpec)

/-- ITS FALSE NEIGHBOUR: 'it returns false'. Refute it at one input. -/
def fnExactTySizeWrong : ChangeSpec := { name := "fnExactTySize", fn := fun _ => fun
  | [d] => { results := [.lit (.bool false)], args := [d] }
  | _ => none }
def FnExactTySizeWrongFalsely : Prop := fnExactTySizeRow.holds Try.pinned (OpenSpec.ofChange fnExactTySizeWrong)

/-- 'laws.FnExactSame': WHATEVER THE INPUT: true; the input reads as it did. -/
def fnExactSameSpec : ChangeSpec := { name := "fnExactSame", fn := fun _ => fun
  | [d1, d2] => { results := [.lit (.bool true)], args := [d1, d2] }
  | _ => none }
def fnExactSameRow : OpenClaim := { program := "ytdcchfpgpdekmaa", sum := "1ed1670e8d1cb12b9ed6ca11152837cc9b9a6eaef99d18e3edd8de35822bac30", func := "loop.example/g00323/laws.FnExactSame", spec := "fnExactSame", unfollowed := true, recurses := true, loops := true, apart := false }
def FnExactSameSaid : Prop := fnExactSameRow.holds Try.pinned (OpenSpec.ofChange fnExactSameSpec)

/-- ITS FALSE NEIGHBOUR: 'it returns false'. Refute it at one input. -/
def fnExactSameWrong : ChangeSpec := { name := "fnExactSame", fn := fun _ => fun
  | [d1, d2] => { results := [.lit (.bool false)], args := [d1, d2] }
  | _ => none }
def FnExactSameWrongFalsely : Prop := fnExactSameRow.holds Try.pinned (OpenSpec.ofChange fnExactSameWrong)

/-- 'laws.FnExactDeep': WHATEVER THE INPUT: true; the input reads as it did. -/
def fnExactDeepSpec : ChangeSpec := { name := "fnExactDeep", fn := fun _ => fun
  | [d] => { results := [.lit (.bool true)], args := [d] }
  | _ => none }
def fnExactDeepRow : OpenClaim := { program := "ytdcchfpgpdekmaa", sum := "1ed1670e8d1cb12b9ed6ca11152837cc9b9a6eaef99d18e3edd8de35822bac30", func := "loop.example/g00323/laws.FnExactDeep", spec := "fnExactDeep", recurses := true, loops := true, apart := false }
def FnExactDeepSaid : Prop := fnExactDeepRow.holds Try.pinned (OpenSpec.ofChange fnExactDeepSpec)

/-- ITS FALSE NEIGHBOUR: 'it returns false'. Refute it at one input. -/
def fnExactDeepWrong : ChangeSpec := { name := "fnExactDeep", fn := fun _ => fun
  | [d] => { results := [.lit (.bool false)], args := [d] }
  | _ => none }
def FnExactDeepWrongFalsely : Prop := fnExactDeepRow.holds Try.pinned (OpenSpec.ofChange fnExactDeepWrong)

/-- 'laws.FnExactPlaces': WHATEVER THE INPUT: true; the input reads as it did. -/
def fnExactPlacesSpec : ChangeSpec := { name := "fnExactPlaces", fn := fun _ => fun
  | [d] => { results := [.lit (.bool true)], args := [d] }
  | _ => none }
def fnExactPlacesRow : OpenClaim := { program := "ytdcchfpgpdekmaa", sum := "1ed1670e8d1cb12b9ed6ca11152837cc9b9a6eaef99d18e3edd8de35822bac30", func := "loop.example/g00323/laws.FnExactPlaces", spec := "fnExactPlaces", apart := false }
def FnExactPlacesSaid : Prop := fnExactPlacesRow.holds Try.pinned (OpenSpec.ofChange fnExactPlacesSpec)

/-- ITS FALSE NEIGHBOUR: 'it returns false'. Refute it at one input. -/
def fnExactPlacesWrong : ChangeSpec := { name := "fnExactPlaces", fn := fun _ => fun
  | [d] => { results := [.lit (.bool false)], args := [d] }
  | _ => none }
def FnExactPlacesWrongFalsely : Prop := fnExactPlacesRow.holds Try.pinned (OpenSpec.ofChange fnExactPlacesWrong)

/-- 'laws.FnExactTyText': WHATEVER THE INPUT: true; the input reads as it did. -/
def fnExactTyTextSpec : ChangeSpec := { name := "fnExactTyText", fn := fun _ => fun
  | [d] => { results := [.lit (.bool true)], args := [d] }
  | _ => none }
def fnExactTyTextRow : OpenClaim := { program := "ytdcchfpgpdekmaa", sum := "1ed1670e8d1cb12b9ed6ca11152837cc9b9a6eaef99d18e3edd8de35822bac30", func := "loop.example/g00323/laws.FnExactTyText", spec := "fnExactTyText", recurses := true, loops := true, apart := false }
def FnExactTyTextSaid : Prop := fnExactTyTextRow.holds Try.pinned (OpenSpec.ofChange fnExactTyTextSpec)

/-- ITS FALSE NEIGHBOUR: 'it returns false'. Refute it at one input. -/
def fnExactTyTextWrong : ChangeSpec := { name := "fnExactTyText", fn := fun _ => fun
  | [d] => { results := [.lit (.bool false)], args := [d] }
  | _ => none }
def FnExactTyTextWrongFalsely : Prop := fnExactTyTextRow.holds Try.pinned (OpenSpec.ofChange fnExactTyTextWrong)

/-- 'laws.FnExactTyOk': WHATEVER THE INPUT: true; the input reads as it did. -/
def fnExactTyOkSpec : ChangeSpec := { name := "fnExactTyOk", fn := fun _ => fun
  | [d] => { results := [.lit (.bool true)], args := [d] }
  | _ => none }
def fnExactTyOkRow : OpenClaim := { program := "ytdcchfpgpdekmaa", sum := "1ed1670e8d1cb12b9ed6ca11152837cc9b9a6eaef99d18e3edd8de35822bac30", func := "loop.example/g00323/laws.FnExactTyOk", spec := "fnExactTyOk", unfollowed := true, recurses := true, loops := true, apart := false }
def FnExactTyOkSaid : Prop := fnExactTyOkRow.holds Try.pinned (OpenSpec.ofChange fnExactTyOkSpec)

/-- ITS FALSE NEIGHBOUR: 'it returns false'. Refute it at one input. -/
def fnExactTyOkWrong : ChangeSpec := { name := "fnExactTyOk", fn := fun _ => fun
  | [d] => { results := [.lit (.bool false)], args := [d] }
  | _ => none }
def FnExactTyOkWrongFalsely : Prop := fnExactTyOkRow.holds Try.pinned (OpenSpec.ofChange fnExactTyOkWrong)

/-- 'laws.FnExactValueText': WHATEVER THE INPUT: true; the input reads as it did. -/
def fnExactValueTextSpec : ChangeSpec := { name := "fnExactValueText", fn := fun _ => fun
  | [d] => { results := [.lit (.bool true)], args := [d] }
  | _ => none }
def fnExactValueTextRow : OpenClaim := { program := "ytdcchfpgpdekmaa", sum := "1ed1670e8d1cb12b9ed6ca11152837cc9b9a6eaef99d18e3edd8de35822bac30", func := "loop.example/g00323/laws.FnExactValueText", spec := "fnExactValueText", recurses := true, loops := true, apart := false }
def FnExactValueTextSaid : Prop := fnExactValueTextRow.holds Try.pinned (OpenSpec.ofChange fnExactValueTextSpec)

/-- ITS FALSE NEIGHBOUR: 'it returns false'. Refute it at one input. -/
def fnExactValueTextWrong : ChangeSpec := { name := "fnExactValueText", fn := fun _ => fun
  | [d] => { results := [.lit (.bool false)], args := [d] }
  | _ => none }
def FnExactValueTextWrongFalsely : Prop := fnExactValueTextRow.holds Try.pinned (OpenSpec.ofChange fnExactValueTextWrong)

/-- 'laws.FnNumbers': WHATEVER THE INPUT: true; the input reads as it did. -/
def fnNumbersSpec : ChangeSpec := { name := "fnNumbers", fn := fun _ => fun
  | [d] => { results := [.lit (.bool true)], args := [d] }
  | _ => none }
def fnNumbersRow : OpenClaim := { program := "ytdcchfpgpdekmaa", sum := "1ed1670e8d1cb12b9ed6ca11152837cc9b9a6eaef99d18e3edd8de35822bac30", func := "loop.example/g00323/laws.FnNumbers", spec := "fnNumbers", recurses := true, apart := false }
def FnNumbersSaid : Prop := fnNumbersRow.holds Try.pinned (OpenSpec.ofChange fnNumbersSpec)

/-- ITS FALSE NEIGHBOUR: 'it returns false'. Refute it at one input. -/
def fnNumbersWrong : ChangeSpec := { name := "fnNumbers", fn := fun _ => fun
  | [d] => { results := [.lit (.bool false)], args := [d] }
  | _ => none }
def FnNumbersWrongFalsely : Prop := fnNumbersRow.holds Try.pinned (OpenSpec.ofChange fnNumbersWrong)

/-- 'laws.FnExactFits': WHATEVER THE INPUT: true; the input reads as it did. -/
def fnExactFitsSpec : ChangeSpec := { name := "fnExactFits", fn := fun _ => fun
  | [d1, d2] => { results := [.lit (.bool true)], args := [d1, d2] }
  | _ => none }
def fnExactFitsRow : OpenClaim := { program := "ytdcchfpgpdekmaa", sum := "1ed1670e8d1cb12b9ed6ca11152837cc9b9a6eaef99d18e3edd8de35822bac30", func := "loop.example/g00323/laws.FnExactFits", spec := "fnExactFits", recurses := true, loops := true, apart := false }
def FnExactFitsSaid : Prop := fnExactFitsRow.holds Try.pinned (OpenSpec.ofChange fnExactFitsSpec)

/-- ITS FALSE NEIGHBOUR: 'it returns false'. Refute it at one input. -/
def fnExactFitsWrong : ChangeSpec := { name := "fnExactFits", fn := fun _ => fun
  | [d1, d2] => { results := [.lit (.bool false)], args := [d1, d2] }
  | _ => none }
def FnExactFitsWrongFalsely : Prop := fnExactFitsRow.holds Try.pinned (OpenSpec.ofChange fnExactFitsWrong)

/- THE SECOND FORM. 'bulk': how many values and letters a reading holds, each counted each time it is reached (what is shared counts as often as it is met; a slice's spare places count too). A statement '..UptoSaid' is the law's where the arguments, and the package variables that the reading takes, are together of bulk at most 1048576: NARROWER than '..Said'. Prove '..Said' where nothing that the law and all that it calls make is longer than what came in: it says more and counts as full. Else prove '..UptoSaid'. A law counts once. -/
mutual
def uptoBulk {H : Type} : DataW H → Nat
  | .lit (.string bytes) => bytes.length + 1
  | .lit _ => 1
  | .nil => 1
  | .ptr d => uptoBulk d + 1
  | .slice elems spare => uptoBulkAll elems + uptoBulkAll spare + 1
  | .agg parts => uptoBulkAll parts + 1
  | .iface _ d => uptoBulk d + 1
  | .map entries => uptoBulkEntries entries + 1
  | .held _ => 1
def uptoBulkAll {H : Type} : List (DataW H) → Nat
  | [] => 0
  | d :: r => uptoBulk d + uptoBulkAll r
def uptoBulkEntries {H : Type} : List (Lit × DataW H) → Nat
  | [] => 0
  | x :: r => uptoBulkEntry x + uptoBulkEntries r
def uptoBulkEntry {H : Type} : Lit × DataW H → Nat
  | (.string bytes, d) => bytes.length + uptoBulk d + 1
  | (_, d) => uptoBulk d + 1
 end
def uptoSmall : (H : Type) → List (DataW H) → Bool := fun _ ds => decide (uptoBulkAll ds ≤ 1048576)
def OpenSpec.upto (s : _root_.Go.ChangeSpec) : _root_.Go.OpenSpec := { _root_.Go.OpenSpec.ofChange s with cond := some uptoSmall }

/-- 'laws.FnExactNumber', WHERE WHAT IT READS IS OF BULK AT MOST 1048576: true; the input reads as it did. -/
def fnExactNumberUptoRow : OpenClaim := { program := "ytdcchfpgpdekmaa", sum := "1ed1670e8d1cb12b9ed6ca11152837cc9b9a6eaef99d18e3edd8de35822bac30", func := "loop.example/g00323/laws.FnExactNumber", spec := "fnExactNumber", apart := false, narrowed := true }
def FnExactNumberUptoSaid : Prop := fnExactNumberUptoRow.holds Try.pinned (OpenSpec.upto fnExactNumberSpec)

/-- 'laws.FnExactOpText', WHERE WHAT IT READS IS OF BULK AT MOST 1048576: true; the input reads as it did. -/
def fnExactOpTextUptoRow : OpenClaim := { program := "ytdcchfpgpdekmaa", sum := "1ed1670e8d1cb12b9ed6ca11152837cc9b9a6eaef99d18e3edd8de35822bac30", func := "loop.example/g00323/laws.FnExactOpText", spec := "fnExactOpText", recurses := true, apart := false, narrowed := true }
def FnExactOpTextUptoSaid : Prop := fnExactOpTextUptoRow.holds Try.pinned (OpenSpec.upto fnExactOpTextSpec)

/-- 'laws.FnExactIrSize', WHERE WHAT IT READS IS OF BULK AT MOST 1048576: true; the input reads as it did. -/
def fnExactIrSizeUptoRow : OpenClaim := { program := "ytdcchfpgpdekmaa", sum := "1ed1670e8d1cb12b9ed6ca11152837cc9b9a6eaef99d18e3edd8de35822bac30", func := "loop.example/g00323/laws.FnExactIrSize", spec := "fnExactIrSize", recurses := true, loops := true, apart := false, narrowed := true }
def FnExactIrSizeUptoSaid : Prop := fnExactIrSizeUptoRow.holds Try.pinned (OpenSpec.upto fnExactIrSizeSpec)

/-- 'laws.FnExactTySize', WHERE WHAT IT READS IS OF BULK AT MOST 1048576: true; the input reads as it did. -/
def fnExactTySizeUptoRow : OpenClaim := { program := "ytdcchfpgpdekmaa", sum := "1ed1670e8d1cb12b9ed6ca11152837cc9b9a6eaef99d18e3edd8de35822bac30", func := "loop.example/g00323/laws.FnExactTySize", spec := "fnExactTySize", recurses := true, loops := true, apart := false, narrowed := true }
def FnExactTySizeUptoSaid : Prop := fnExactTySizeUptoRow.holds Try.pinned (OpenSpec.upto fnExactTySizeSpec)

/-- 'laws.FnExactSame', WHERE WHAT IT READS IS OF BULK AT MOST 1048576: true; the input reads as it did. -/
def fnExactSameUptoRow : OpenClaim := { program := "ytdcchfpgpdekmaa", sum := "1ed1670e8d1cb12b9ed6ca11152837cc9b9a6eaef99d18e3edd8de35822bac30", func := "loop.example/g00323/laws.FnExactSame", spec := "fnExactSame", unfollowed := true, recurses := true, loops := true, apart := false, narrowed := true }
def FnExactSameUptoSaid : Prop := fnExactSameUptoRow.holds Try.pinned (OpenSpec.upto fnExactSameSpec)

/-- 'laws.FnExactDeep', WHERE WHAT IT READS IS OF BULK AT MOST 1048576: true; the input reads as it did. -/
def fnExactDeepUptoRow : OpenClaim := { program := "ytdcchfpgpdekmaa", sum := "1ed1670e8d1cb12b9ed6ca11152837cc9b9a6eaef99d18e3edd8de35822bac30", func := "loop.example/g00323/laws.FnExactDeep", spec := "fnExactDeep", recurses := true, loops := true, apart := false, narrowed := true }
def FnExactDeepUptoSaid : Prop := fnExactDeepUptoRow.holds Try.pinned (OpenSpec.upto fnExactDeepSpec)

/-- 'laws.FnExactPlaces', WHERE WHAT IT READS IS OF BULK AT MOST 1048576: true; the input reads as it did. -/
def fnExactPlacesUptoRow : OpenClaim := { program := "ytdcchfpgpdekmaa", sum := "1ed1670e8d1cb12b9ed6ca11152837cc9b9a6eaef99d18e3edd8de35822bac30", func := "loop.example/g00323/laws.FnExactPlaces", spec := "fnExactPlaces", apart := false, narrowed := true }
def FnExactPlacesUptoSaid : Prop := fnExactPlacesUptoRow.holds Try.pinned (OpenSpec.upto fnExactPlacesSpec)

/-- 'laws.FnExactTyText', WHERE WHAT IT READS IS OF BULK AT MOST 1048576: true; the input reads as it did. -/
def fnExactTyTextUptoRow : OpenClaim := { program := "ytdcchfpgpdekmaa", sum := "1ed1670e8d1cb12b9ed6ca11152837cc9b9a6eaef99d18e3edd8de35822bac30", func := "loop.example/g00323/laws.FnExactTyText", spec := "fnExactTyText", recurses := true, loops := true, apart := false, narrowed := true }
def FnExactTyTextUptoSaid : Prop := fnExactTyTextUptoRow.holds Try.pinned (OpenSpec.upto fnExactTyTextSpec)

/-- 'laws.FnExactTyOk', WHERE WHAT IT READS IS OF BULK AT MOST 1048576: true; the input reads as it did. -/
def fnExactTyOkUptoRow : OpenClaim := { program := "ytdcchfpgpdekmaa", sum := "1ed1670e8d1cb12b9ed6ca11152837cc9b9a6eaef99d18e3edd8de35822bac30", func := "loop.example/g00323/laws.FnExactTyOk", spec := "fnExactTyOk", unfollowed := true, recurses := true, loops := true, apart := false, narrowed := true }
def FnExactTyOkUptoSaid : Prop := fnExactTyOkUptoRow.holds Try.pinned (OpenSpec.upto fnExactTyOkSpec)

/-- 'laws.FnExactValueText', WHERE WHAT IT READS IS OF BULK AT MOST 1048576: true; the input reads as it did. -/
def fnExactValueTextUptoRow : OpenClaim := { program := "ytdcchfpgpdekmaa", sum := "1ed1670e8d1cb12b9ed6ca11152837cc9b9a6eaef99d18e3edd8de35822bac30", func := "loop.example/g00323/laws.FnExactValueText", spec := "fnExactValueText", recurses := true, loops := true, apart := false, narrowed := true }
def FnExactValueTextUptoSaid : Prop := fnExactValueTextUptoRow.holds Try.pinned (OpenSpec.upto fnExactValueTextSpec)

/-- 'laws.FnNumbers', WHERE WHAT IT READS IS OF BULK AT MOST 1048576: true; the input reads as it did. -/
def fnNumbersUptoRow : OpenClaim := { program := "ytdcchfpgpdekmaa", sum := "1ed1670e8d1cb12b9ed6ca11152837cc9b9a6eaef99d18e3edd8de35822bac30", func := "loop.example/g00323/laws.FnNumbers", spec := "fnNumbers", recurses := true, apart := false, narrowed := true }
def FnNumbersUptoSaid : Prop := fnNumbersUptoRow.holds Try.pinned (OpenSpec.upto fnNumbersSpec)

/-- 'laws.FnExactFits', WHERE WHAT IT READS IS OF BULK AT MOST 1048576: true; the input reads as it did. -/
def fnExactFitsUptoRow : OpenClaim := { program := "ytdcchfpgpdekmaa", sum := "1ed1670e8d1cb12b9ed6ca11152837cc9b9a6eaef99d18e3edd8de35822bac30", func := "loop.example/g00323/laws.FnExactFits", spec := "fnExactFits", recurses := true, loops := true, apart := false, narrowed := true }
def FnExactFitsUptoSaid : Prop := fnExactFitsUptoRow.holds Try.pinned (OpenSpec.upto fnExactFitsSpec)

end Rows
end Go.Proofs.Ytdcchfpgpdekmaa
