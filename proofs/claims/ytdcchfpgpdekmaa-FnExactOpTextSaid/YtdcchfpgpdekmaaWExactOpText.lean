/- The walk of the law FnExactOpText. Conditions: none. -/
import Derived.Test.YtdcchfpgpdekmaaOpTextS
import Derived.Test.YtdcchfpgpdekmaaAOp
import Derived.Deep.RegionHeld3
namespace Go.Proofs.Ytdcchfpgpdekmaa
open Go.RowKit
set_option linter.unusedVariables false
set_option linter.unusedSimpArgs false
set_option maxHeartbeats 2000000

set_option maxRecDepth 20000 in
theorem walkExactOpText (t0 : GOp)  (w : World) (hat0 : GOp.At w (Lt w.heap.size)  t0) :
    Calls Try.prog 4 #[.agg #[.int .i64 t0.code, .int .i64 t0.n, .int .i64 t0.m]] w fun e w' => e = .returned (.bool true) ∧ Below w.heap.size w w' := by
  have B0 : Below w.heap.size w w := Below.refl _ _
  have at00 := Lib.hid hat0
  clear hat0
  have E1 : Below (w).heap.size (w) (w.alloc (.cells #[.int .i64 t0.code, .int .i64 t0.n, .int .i64 t0.m] 26)) := (Below.refl _ _).alloc (Nat.le_refl _) _
  have B1 : Below w.heap.size w (w.alloc (.cells #[.int .i64 t0.code, .int .i64 t0.n, .int .i64 t0.m] 26)) := B0.alloc B0.size _
  have ba01 := Lib.hid (Row.new' (w) 26 #[.int .i64 t0.code, .int .i64 t0.n, .int .i64 t0.m] (g := w.heap.size) rfl)
  have at01 := Lib.hid (at00.out.below E1 E1.size)
  go_enter Try.func4, Try.ntmps4
  have hm0 : t0.bulk ≤ 1048576 := by rw [t0.bulk_eq]; omega
  go_wp2_with fail
  refine (toOp' t0  _ hm0 at01.out).mono ?_
  rintro e w1 ⟨rfl, owd0, hb1⟩
  have B2 := B1.trans (hb1.mono B1.size)
  have ba02 := Lib.hid (ba01.out.below hb1 ba01.out.lt)
  have at02 := Lib.hid (at01.out.below hb1 hb1.size)
  have hcba02 := fun i => ba02.out.cell i
  have df02 := Lib.hid (owd0.at.keep fun b hb => ⟨hb.2, rfl⟩)
  go_wp2_with fail
  refine (specOpText' t0 _ df02.out).mono ?_
  rintro e w2 ⟨rfl, hb2⟩
  have B3 := B2.trans (hb2.mono B2.size)
  have ba03 := Lib.hid (ba02.out.below hb2 ba02.out.lt)
  have at03 := Lib.hid (at02.out.below hb2 hb2.size)
  have df03 := Lib.hid (df02.out.below hb2 hb2.size)
  have hcba03 := fun i => ba03.out.cell i
  go_wp2_with fail
  refine (toOp' t0  _ hm0 at03.out).mono ?_
  rintro e w3 ⟨rfl, owx0, hb3⟩
  have B4 := B3.trans (hb3.mono B3.size)
  have ba04 := Lib.hid (ba03.out.below hb3 ba03.out.lt)
  have at04 := Lib.hid (at03.out.below hb3 hb3.size)
  have hcba04 := fun i => ba04.out.cell i
  have xf04 := Lib.hid (owx0.at.keep fun b hb => ⟨hb.2, rfl⟩)
  go_wp2_with fail
  refine (implOpText' t0 _ xf04.out).mono ?_
  rintro e w4 ⟨rfl, hb4⟩
  have B5 := B4.trans (hb4.mono B4.size)
  have ba05 := Lib.hid (ba04.out.below hb4 ba04.out.lt)
  have at05 := Lib.hid (at04.out.below hb4 hb4.size)
  have xf05 := Lib.hid (xf04.out.below hb4 hb4.size)
  have hcba05 := fun i => ba05.out.cell i
  go_wp2_with fail
  go_ret
  exact ⟨rfl, B5⟩
end Go.Proofs.Ytdcchfpgpdekmaa
