/- The walk of the law FnExactWordOk. Conditions: none. -/
import Derived.Test.YtaekegdbkeibmaaRows
import Derived.Test.YtaekegdbkeibmaaPw
namespace Go.Proofs.Ytaekegdbkeibmaa
open Go.RowKit
set_option linter.unusedVariables false
theorem walkExactWordOk (a : Int) (w : World) (h1 : -9223372036854775808 ≤ a) (h2 : a ≤ 9223372036854775807) :
    Calls Try.prog 4 #[.int .i64 a] w fun e w' => e = .returned (.bool true) ∧ Below w.heap.size w w' := by
  by_cases g1 : -1073741824 ≤ a
  · by_cases g2 : a ≤ 1073741823
    all_goals
      go_enter Try.func4, Try.ntmps4
      go_wp2
      go_ret
      exact ⟨rfl, Below.refl _ _⟩
  · have g2 : a ≤ 1073741823 := by omega
    go_enter Try.func4, Try.ntmps4
    go_wp2
    go_ret
    exact ⟨rfl, Below.refl _ _⟩
end Go.Proofs.Ytaekegdbkeibmaa
