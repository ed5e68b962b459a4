/- The walk of the law FnExactNumber. Conditions: none. -/
import Derived.Test.YtdcchfpgpdekmaaNumber
import Derived.Test.YtdcchfpgpdekmaaMem
import Derived.Deep.RegionHeld3
namespace Go.Proofs.Ytdcchfpgpdekmaa
open Go.RowKit
set_option linter.unusedVariables false
set_option linter.unusedSimpArgs false
set_option maxHeartbeats 2000000

set_option maxRecDepth 20000 in
theorem walkExactNumber (s0 : ByteArray) (w : World) (hs0 : s0.size ≤ maxLen) :
    Calls Try.prog 3 #[.string s0] w fun e w' => e = .returned (.bool true) ∧ Below w.heap.size w w' := by
  unfold maxLen at hs0
  have B0 : Below w.heap.size w w := Below.refl _ _
  go_enter Try.func3, Try.ntmps3
  by_cases hg0 : 1048576 < s0.size
  · skip
    go_wp2_with fail
    go_ret
    exact ⟨rfl, B0⟩
  have hgi0 : (s0.size : Nat) ≤ 1048576 := by omega
  go_wp2_with fail
  refine (specNumber s0 _ (by omega)).mono ?_
  rintro e w1 ⟨rfl, hb1⟩
  have B1 := B0.trans (hb1.mono B0.size)
  go_wp2_with fail
  refine (quietB (implNumber s0 _ (by omega))).mono ?_
  rintro e w2 ⟨rfl, hb2⟩
  have B2 := B1.trans (hb2.mono B1.size)
  generalize (numI s0).1 = x
  generalize (numI s0).2 = y
  have hx1 : (x != x) = false := by simp
  have hy1 : (y != y) = false := by simp
  go_wp2_with fail
  go_ret
  exact ⟨rfl, B2⟩
end Go.Proofs.Ytdcchfpgpdekmaa
