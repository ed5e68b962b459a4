/- within and l1In: a number between two. Conditions: none. -/
import Derived.Test.YtgbcdfeflgnogaaRows
import Derived.Test.YtgbcdfeflgnogaaPw
import Derived.BigQuiet
namespace Go.Proofs.Ytgbcdfeflgnogaa
open Go.RowKit
set_option linter.unusedVariables false

/-- behind draws -/
theorem belowN {B : Nat} {a w : World} (h : Below B a w) (n : Nat) : Below B a (w.drewN n) := ⟨h.os, h.tape, h.output, h.size, h.block⟩

/-- is a number from one on, up to another? -/
def inB (n lo hi : Int) : Bool := decide (lo ≤ n ∧ n ≤ hi)
theorem inB_true {n lo hi : Int} (h : lo ≤ n ∧ n ≤ hi) : inB n lo hi = true := decide_eq_true h
theorem inB_false {n lo hi : Int} (h : ¬ (lo ≤ n ∧ n ≤ hi)) : inB n lo hi = false := decide_eq_false h

theorem implWithin (n lo hi : Int) (w : World) : Calls Try.prog 193 #[.int .i64 n, .int .i64 lo, .int .i64 hi] w fun e w' => e = .returned (.bool (inB n lo hi)) ∧ w = w' := by
  by_cases h1 : lo ≤ n
  · by_cases h2 : n ≤ hi
    · go_enter Try.func193, Try.ntmps193
      go_wp2_with fail
      go_ret
      exact ⟨ret_bool (by rw [inB_true ⟨h1, h2⟩]), rfl⟩
    · have h3 : decide (n ≤ hi) = false := by simpa using h2
      go_enter Try.func193, Try.ntmps193
      go_wp2_with fail
      go_ret
      exact ⟨ret_bool (by rw [inB_false (by omega)]), rfl⟩
  · have h3 : decide (lo ≤ n) = false := by simpa using h1
    go_enter Try.func193, Try.ntmps193
    go_wp2_with fail
    go_ret
    exact ⟨ret_bool (by rw [inB_false (by omega)]), rfl⟩

theorem specIn (n lo hi : Int) (w : World) : Calls Try.prog 99 #[.int .i64 n, .int .i64 lo, .int .i64 hi] w fun e w' => e = .returned (.bool (inB n lo hi)) ∧ w = w' := by
  by_cases h1 : lo ≤ n
  · by_cases h2 : n ≤ hi
    · go_enter Try.func99, Try.ntmps99
      go_wp2_with fail
      go_ret
      exact ⟨ret_bool (by rw [inB_true ⟨h1, h2⟩]), rfl⟩
    · have h3 : decide (n ≤ hi) = false := by simpa using h2
      go_enter Try.func99, Try.ntmps99
      go_wp2_with fail
      go_ret
      exact ⟨ret_bool (by rw [inB_false (by omega)]), rfl⟩
  · have h3 : decide (lo ≤ n) = false := by simpa using h1
    go_enter Try.func99, Try.ntmps99
    go_wp2_with fail
    go_ret
    exact ⟨ret_bool (by rw [inB_false (by omega)]), rfl⟩
theorem implWithinT (n lo hi : Int) (w : World) (h : lo ≤ n ∧ n ≤ hi) : Calls Try.prog 193 #[.int .i64 n, .int .i64 lo, .int .i64 hi] w fun e w' => e = .returned (.bool true) ∧ w' = w :=
  (implWithin n lo hi w).mono fun _ _ ⟨he, hw⟩ => ⟨by rw [he, inB_true h], hw.symm⟩
theorem implWithinF (n lo hi : Int) (w : World) (h : ¬ (lo ≤ n ∧ n ≤ hi)) : Calls Try.prog 193 #[.int .i64 n, .int .i64 lo, .int .i64 hi] w fun e w' => e = .returned (.bool false) ∧ w' = w :=
  (implWithin n lo hi w).mono fun _ _ ⟨he, hw⟩ => ⟨by rw [he, inB_false h], hw.symm⟩
theorem specInT (n lo hi : Int) (w : World) (h : lo ≤ n ∧ n ≤ hi) : Calls Try.prog 99 #[.int .i64 n, .int .i64 lo, .int .i64 hi] w fun e w' => e = .returned (.bool true) ∧ w' = w :=
  (specIn n lo hi w).mono fun _ _ ⟨he, hw⟩ => ⟨by rw [he, inB_true h], hw.symm⟩
theorem specInF (n lo hi : Int) (w : World) (h : ¬ (lo ≤ n ∧ n ≤ hi)) : Calls Try.prog 99 #[.int .i64 n, .int .i64 lo, .int .i64 hi] w fun e w' => e = .returned (.bool false) ∧ w' = w :=
  (specIn n lo hi w).mono fun _ _ ⟨he, hw⟩ => ⟨by rw [he, inB_false h], hw.symm⟩
end Go.Proofs.Ytgbcdfeflgnogaa
