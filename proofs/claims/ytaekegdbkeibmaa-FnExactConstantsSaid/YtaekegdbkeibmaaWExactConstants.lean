/- The walk of the law FnExactConstants. Conditions: none. -/
import Derived.Test.YtaekegdbkeibmaaRows
import Derived.Test.YtaekegdbkeibmaaPw
namespace Go.Proofs.Ytaekegdbkeibmaa
open Go.RowKit
theorem walkExactConstants (w : World) : Calls Try.prog 3 #[] w fun e w' => e = .returned (.bool true) ∧ Below w.heap.size w w' := by
  go_enter Try.func3, Try.ntmps3
  go_wp2
  go_ret
  exact ⟨rfl, Below.refl _ _⟩
end Go.Proofs.Ytaekegdbkeibmaa
