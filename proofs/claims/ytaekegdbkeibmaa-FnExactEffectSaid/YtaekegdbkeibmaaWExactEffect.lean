/- The walk of the law FnExactEffect. Conditions: none. -/
import Derived.Test.YtaekegdbkeibmaaEffect
import Derived.Test.YtaekegdbkeibmaaAOp
namespace Go.Proofs.Ytaekegdbkeibmaa
open Go.RowKit
set_option linter.unusedVariables false
theorem walkExactEffect (t : GOp) (w : World) (hat : GOp.At w (Lt w.heap.size) t) :
    Calls Try.prog 8 #[.agg #[.int .i64 t.code, .int .i64 t.n, .int .i64 t.m]] w fun e w' => e = .returned (.bool true) ∧ Below w.heap.size w w' := by
  have hb0 : t.bulk ≤ 1048576 := by rw [t.bulk_eq]; omega
  have hat' := Lib.hid hat
  clear hat
  have B0 : Below w.heap.size w (w.alloc (.cells #[.int .i64 t.code, .int .i64 t.n, .int .i64 t.m] 28)) := (Below.refl _ _).alloc (Nat.le_refl _) _
  have r0 := Lib.hid (Row.new w 28 #[.int .i64 t.code, .int .i64 t.n, .int .i64 t.m])
  go_enter Try.func8, Try.ntmps8
  go_wp2_with fail
  refine (toOp' t _ hb0 (hat'.out.below B0 B0.size)).mono ?_
  rintro e w1 ⟨rfl, ow1, hb1⟩
  have B1 := B0.trans (hb1.mono B0.size)
  have r1 := Lib.hid (r0.out.below hb1 r0.out.lt)
  have hc1 := fun i => r1.out.cell i
  go_wp2_with fail
  refine (specEffect t.code t.n t.m _).mono ?_
  rintro e w2 ⟨rfl, hb2⟩
  have B2 := B1.trans (hb2.mono B1.size)
  have r2 := Lib.hid (r1.out.below hb2 r1.out.lt)
  have hc2 := fun i => r2.out.cell i
  go_wp2_with fail
  refine (toOp' t _ hb0 (hat'.out.below B2 B2.size)).mono ?_
  rintro e w3 ⟨rfl, ow3, hb3⟩
  have B3 := B2.trans (hb3.mono B2.size)
  go_wp2_with fail
  refine (implEffect t.code t.n t.m _).mono ?_
  rintro e w4 ⟨rfl, hb4⟩
  have B4 := B3.trans (hb4.mono B3.size)
  generalize (effI t.code t.m).1 = x
  generalize (effI t.code t.m).2 = y
  have hx1 : (x != x) = false := by simp
  have hy1 : (y != y) = false := by simp
  go_wp2_with fail
  go_ret
  exact ⟨rfl, B4⟩
end Go.Proofs.Ytaekegdbkeibmaa
