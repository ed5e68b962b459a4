/- Texts of the claim LVerifies in one: EvV0. Conditions: none but bounds on sizes. -/
import Derived.Test.YtehpobojopmilaaGreatZLVerifies0
namespace Go.Proofs.YtehpobojopmilaaGreat
set_option maxRecDepth 20000
set_option linter.unusedVariables false
set_option linter.unusedSimpArgs false
set_option maxRecDepth 1000000 in
theorem evc0 : Ev.chainV (evE Ev.txt0) 3000 49 45 43 36 6 evYes evYes evYes evOkV = true := by decide +kernel
set_option maxRecDepth 1000000 in
theorem evt0 : Txt4 Ev.txt0 := txt4_of (by decide +kernel) (by decide +kernel) evc0
end Go.Proofs.YtehpobojopmilaaGreat
