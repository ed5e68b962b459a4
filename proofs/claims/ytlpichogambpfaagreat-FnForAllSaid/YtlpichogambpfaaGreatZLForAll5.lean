/- Texts of the claim LForAll in one: EvM4. Conditions: none but bounds on sizes. -/
import Derived.Test.YtlpichogambpfaaGreatZLForAll0
namespace Go.Proofs.YtlpichogambpfaaGreat
set_option maxRecDepth 20000
set_option linter.unusedVariables false
set_option linter.unusedSimpArgs false
set_option maxRecDepth 1000000 in
theorem evc4 : Ev.chain (evE Ev.txt4) 3000 67 54 47 6 11 evOkP evOkI evOkF = true := by decide +kernel
set_option maxRecDepth 1000000 in
theorem evt4 : Txt3 Ev.txt4 := txt3_of (by decide +kernel) (by decide +kernel) evc4
end Go.Proofs.YtlpichogambpfaaGreat
