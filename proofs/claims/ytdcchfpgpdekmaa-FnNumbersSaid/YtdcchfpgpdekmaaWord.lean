/- What Round and WordOk compute, in the program and in the reference. Conditions: the argument fits an int. -/
import Derived.Test.YtdcchfpgpdekmaaRows
import Derived.Test.YtdcchfpgpdekmaaPw
namespace Go.Proofs.Ytdcchfpgpdekmaa
open Go.RowKit
set_option linter.unusedVariables false
set_option linter.unusedSimpArgs false

theorem specRound (n : Int) (h1 : -9223372036854775808 ≤ n) (h2 : n ≤ 9223372036854775807) (w : World) :
    Calls Try.prog 60 #[.int .i64 n] w fun e w' => e = .returned (.int .i64 (roundI n)) ∧ w = w' := by
  have H := i64_and31 n
  have hb : 0 ≤ n % 2147483648 ∧ n % 2147483648 < 2147483648 := by omega
  by_cases hc : 1073741823 < n % 2147483648
  all_goals
    go_enter Try.func60, Try.ntmps60
    go_wp2
    go_ret
    exact ⟨ret_int (by unfold roundI; split <;> omega), rfl⟩

theorem implRound (n : Int) (h1 : -9223372036854775808 ≤ n) (h2 : n ≤ 9223372036854775807) (w : World) :
    Calls Try.prog 59 #[.int .i64 n] w fun e w' => e = .returned (.int .i64 (roundI n)) ∧ w = w' := by
  have hb : -2147483648 < n.tmod 2147483648 ∧ n.tmod 2147483648 < 2147483648 := by
    have := tmod31 n
    omega
  go_enter Try.func59, Try.ntmps59
  go_wp2
  all_goals
    go_ret
    refine ⟨ret_int ?_, rfl⟩
    have := tmod31 n
    unfold roundI
    split <;> omega

end Go.Proofs.Ytdcchfpgpdekmaa
