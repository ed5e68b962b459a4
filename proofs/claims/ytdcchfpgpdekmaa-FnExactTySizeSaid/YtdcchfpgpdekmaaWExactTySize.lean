/- The walk of the law FnExactTySize. Conditions: none. -/
import Derived.Test.YtdcchfpgpdekmaaTySize
import Derived.Test.YtdcchfpgpdekmaaATy
import Derived.Deep.RegionWith
namespace Go.Proofs.Ytdcchfpgpdekmaa
open Go.RowKit
set_option linter.unusedVariables false
set_option linter.unusedSimpArgs false
set_option maxHeartbeats 1000000

set_option maxRecDepth 20000 in
theorem walkExactTySize (t : GTy) (A1 : Option Addr) (c1 : Nat) (w : World) (hat : GTy.At w (Lt w.heap.size) A1 c1 t) :
    Calls Try.prog 6 #[.agg #[.int .i64 t.op, .int .i64 t.n, .string t.s, .slice A1 t.kids.length c1]] w fun e w' => e = .returned (.bool true) ∧ Below w.heap.size w w' := by
  have hat' := Lib.hid hat
  clear hat
  have B0 : Below w.heap.size w (w.alloc (.cells #[.int .i64 t.op, .int .i64 t.n, .string t.s, .slice A1 t.kids.length c1] 44)) := (Below.refl _ _).alloc (Nat.le_refl _) _
  have r0 := Lib.hid (Row.new w 44 #[.int .i64 t.op, .int .i64 t.n, .string t.s, .slice A1 t.kids.length c1])
  go_enter Try.func6, Try.ntmps6
  go_wp2_with fail
  refine (szTy' t A1 c1 1048576 _ (by omega) (by omega) (hat'.out.below B0 B0.size)).mono ?_
  rintro e w1 ⟨rfl, hb1⟩
  have B1 := B0.trans (hb1.mono B0.size)
  have r1 := Lib.hid (r0.out.below hb1 r0.out.lt)
  have hc1 := fun i => r1.out.cell i
  by_cases hbk : ((t.bulk : Nat) : Int) ≤ 1048576
  rotate_left
  · have hv := szv_gt (b := t.bulk) (left := 1048576) (by omega)
    go_wp2_with fail
    go_ret
    exact ⟨rfl, B1⟩
  have hv := szv_le hbk
  have hge : 0 ≤ 1048576 - ((t.bulk : Nat) : Int) := by omega
  have hbk' : t.bulk ≤ 1048576 := by omega
  have hnd := GTy.nodes_bulk t
  go_wp2_with fail
  refine (toTy' t A1 c1 _ hbk' (hat'.out.below B1 B1.size)).mono ?_
  rintro e w2 ⟨D1, d1, rfl, ow1, hb2⟩
  have B2 := B1.trans (hb2.mono B1.size)
  have r2 := Lib.hid (r1.out.below hb2 r1.out.lt)
  have hc2 := fun i => r2.out.cell i
  go_wp2_with fail
  refine (specTySize t.nodes t D1 d1 _ (Nat.le_refl _) (by omega) (ow1.at.keep fun b hb => ⟨hb.2, rfl⟩)).mono ?_
  rintro e w3 ⟨rfl, hb3⟩
  have B3 := B2.trans (hb3.mono B2.size)
  have r3 := Lib.hid (r2.out.below hb3 r2.out.lt)
  have hc3 := fun i => r3.out.cell i
  go_wp2_with fail
  refine (toTy' t A1 c1 _ hbk' (hat'.out.below B3 B3.size)).mono ?_
  rintro e w4 ⟨X1, x1, rfl, ow2, hb4⟩
  have B4 := B3.trans (hb4.mono B3.size)
  have r4 := Lib.hid (r3.out.below hb4 r3.out.lt)
  have hc4 := fun i => r4.out.cell i
  have hx : GTy.At w4 (Lt w4.heap.size) X1 x1 t := ow2.at.keep fun b hb => ⟨hb.2, rfl⟩
  have hx' := Lib.hid hx
  clear hx
  have B5 : Below w.heap.size w (w4.alloc (.cells #[.int .i64 t.op, .int .i64 t.n, .string t.s, .slice X1 t.kids.length x1] 49)) := B4.alloc B4.size _
  have E5 : Below w4.heap.size w4 (w4.alloc (.cells #[.int .i64 t.op, .int .i64 t.n, .string t.s, .slice X1 t.kids.length x1] 49)) := (Below.refl _ _).alloc (Nat.le_refl _) _
  have rx5 := Lib.hid (Row.new w4 49 #[.int .i64 t.op, .int .i64 t.n, .string t.s, .slice X1 t.kids.length x1])
  have r5 := Lib.hid (r4.out.alloc (.cells #[.int .i64 t.op, .int .i64 t.n, .string t.s, .slice X1 t.kids.length x1] 49))
  go_wp2_with fail
  refine (implTySize t.nodes t X1 x1 _ (Nat.le_refl _) (by omega) (hx'.out.below E5 E5.size)).mono ?_
  rintro e w6 ⟨rfl, hb6⟩
  have B6 := B5.trans (hb6.mono B5.size)
  have E6 := E5.trans (hb6.mono E5.size)
  have r6 := Lib.hid (r5.out.below hb6 r5.out.lt)
  have rx6 := Lib.hid (rx5.out.below hb6 rx5.out.lt)
  have hc6 := fun i => r6.out.cell i
  have hcx6 := fun i => rx6.out.cell i
  go_wp2_with fail
  go_region_with (first
    | (go_at_call 27
       refine (toTy' t A1 c1 w6.drew hbk' (hat'.out.below (B6.drew) B6.size)).mono ?_
       rintro e w7 ⟨Y1, y1, rfl, ow7, hb7⟩
       have r7 := Lib.hid (Row.below (w := w6.drew) r6.out hb7 r6.out.lt)
       have rx7 := Lib.hid (Row.below (w := w6.drew) rx6.out hb7 rx6.out.lt)
       have hc7 := fun i => r7.out.cell i
       have hcx7 := fun i => rx7.out.cell i)
    | (go_at_call 29
       refine (eqTy' t X1 x1 _ _ _ (by exact hx'.out.below (E6.drew.trans (hb7.mono E6.size)) (Nat.le_trans E6.size hb7.size)) (by exact ow7.at.keep fun b hb => ⟨hb.2, rfl⟩)).mono ?_
       rintro e w8 ⟨rfl, hb8⟩))
  all_goals
    go_wp2_with fail
    go_ret
    exact ⟨rfl, (B6.drew.trans (hb7.mono B6.size)).trans (hb8.mono (Nat.le_trans B6.size hb7.size))⟩
end Go.Proofs.Ytdcchfpgpdekmaa
