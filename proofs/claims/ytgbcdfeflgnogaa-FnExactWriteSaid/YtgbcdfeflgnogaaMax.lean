/- The greater of two. Conditions: none. -/
import Derived.Test.YtgbcdfeflgnogaaRows
import Derived.Test.YtgbcdfeflgnogaaPw
namespace Go.Proofs.Ytgbcdfeflgnogaa
open Go.RowKit
theorem specMax (a b : Int) (w : World) : Calls Try.prog 185 #[.int .i64 a, .int .i64 b] w fun e w' => e = .returned (.int .i64 (max a b)) ∧ w = w' := by
  by_cases h : b < a
  · go_enter Try.func185, Try.ntmps185
    go_wp2_with fail
    go_ret
    exact ⟨ret_int (by omega), rfl⟩
  · go_enter Try.func185, Try.ntmps185
    go_wp2_with fail
    go_ret
    exact ⟨ret_int (by omega), rfl⟩
end Go.Proofs.Ytgbcdfeflgnogaa
