/- What Effect gives, in the program and in the reference. Conditions: none. -/
import Derived.Test.YtgbcdfeflgnogaaRows
import Derived.Test.YtgbcdfeflgnogaaPw
import Derived.Test.YtgbcdfeflgnogaaGOp
import Derived.Lib.Hide
namespace Go.Proofs.Ytgbcdfeflgnogaa
open Go.RowKit
set_option linter.unusedVariables false
set_option maxHeartbeats 1000000

/-- what Effect gives of a code and its M -/
def effI (c m : Int) : Int × Int :=
  if c = 1 ∨ c = 2 ∨ c = 3 ∨ c = 4 then (0, 1) else if c = 5 ∨ c = 8 then (m, 1) else
  if c = 6 ∨ c = 12 ∨ c = 13 ∨ c = 14 ∨ c = 15 ∨ c = 16 ∨ c = 20 then (2, 1) else if c = 7 ∨ c = 10 ∨ c = 11 ∨ c = 18 then (1, 0) else if c = 9 ∨ c = 17 then (1, 1) else (0, 0)

theorem effI_cases (c : Int) : c = 1 ∨ c = 2 ∨ c = 3 ∨ c = 4 ∨ c = 5 ∨ c = 6 ∨ c = 7 ∨ c = 8 ∨ c = 9 ∨ c = 10 ∨ c = 11 ∨ c = 12 ∨ c = 13 ∨ c = 14 ∨ c = 15 ∨ c = 16 ∨ c = 17 ∨ c = 18 ∨ c = 19 ∨ c = 20 ∨ (c < 1 ∨ 20 < c) := by omega

theorem ret_two {k : IntKind} {a b c d : Int} (h : c = a) (h2 : d = b) : Ending.returned (.tuple #[.int k a, .int k b]) = .returned (.tuple #[.int k c, .int k d]) := by rw [h, h2]

theorem effI_else {c m : Int} (h : c < 1 ∨ 20 < c) : effI c m = (0, 0) := by
  unfold effI; repeat rw [if_neg (by omega)]

end Go.Proofs.Ytgbcdfeflgnogaa
