/- The walk of the law FnExactErase. Conditions: none. -/
import Derived.Test.YtjcgfbjdailgoaaErase
import Derived.Test.YtjcgfbjdailgoaaATyped
import Derived.Test.YtjcgfbjdailgoaaMTyped
import Derived.Test.YtjcgfbjdailgoaaANode
import Derived.Test.YtjcgfbjdailgoaaMNode
import Derived.Deep.RegionHeld3
import Derived.Deep.RegionLaw
import Derived.Deep.CutRange
namespace Go.Proofs.Ytjcgfbjdailgoaa
open Go.RowKit
set_option linter.unusedVariables false
set_option linter.unusedSimpArgs false
set_option linter.unnecessarySimpa false
set_option maxHeartbeats 4000000

set_option maxRecDepth 20000 in
theorem walkExactErase (t0 : GTyped) (A01 : Option Addr) (c01 : Nat) (A02 : Option Addr) (c02 : Nat) (A03 : Option Addr) (c03 : Nat) (A04 : Option Addr) (c04 : Nat) (w : World) (hat0 : GTyped.At w (Lt w.heap.size) A01 c01 A02 c02 A03 c03 A04 c04 t0) :
    Calls Try.prog 3 #[.agg #[.int .i64 t0.op, .int .i64 t0.n, .string t0.s, .string t0.t, .int .i64 t0.ty.op, .int .i64 t0.ty.n, .string t0.ty.s, .slice A01 t0.ty.kids.length c01, .slice A02 t0.inst.length c02, .slice A03 t0.vars.length c03, .slice A04 t0.kids.length c04]] w fun e w' => e = .returned (.bool true) ∧ Below w.heap.size w w' := by
  have B0 : Below w.heap.size w w := Below.refl _ _
  have at00 := Lib.hid hat0
  clear hat0
  have E1 : Below (w).heap.size (w) (w.alloc (.cells #[.int .i64 t0.op, .int .i64 t0.n, .string t0.s, .string t0.t, .int .i64 t0.ty.op, .int .i64 t0.ty.n, .string t0.ty.s, .slice A01 t0.ty.kids.length c01, .slice A02 t0.inst.length c02, .slice A03 t0.vars.length c03, .slice A04 t0.kids.length c04] 28)) := (Below.refl _ _).alloc (Nat.le_refl _) _
  have B1 : Below w.heap.size w (w.alloc (.cells #[.int .i64 t0.op, .int .i64 t0.n, .string t0.s, .string t0.t, .int .i64 t0.ty.op, .int .i64 t0.ty.n, .string t0.ty.s, .slice A01 t0.ty.kids.length c01, .slice A02 t0.inst.length c02, .slice A03 t0.vars.length c03, .slice A04 t0.kids.length c04] 28)) := B0.alloc B0.size _
  have ba01 := Lib.hid (Row.new' (w) 28 #[.int .i64 t0.op, .int .i64 t0.n, .string t0.s, .string t0.t, .int .i64 t0.ty.op, .int .i64 t0.ty.n, .string t0.ty.s, .slice A01 t0.ty.kids.length c01, .slice A02 t0.inst.length c02, .slice A03 t0.vars.length c03, .slice A04 t0.kids.length c04] (g := w.heap.size) rfl)
  have at01 := Lib.hid (at00.out.below E1 E1.size)
  go_enter Try.func3, Try.ntmps3
  go_wp2_with fail
  refine (szTyped' t0 A01 c01 A02 c02 A03 c03 A04 c04 (1048576) _ (by omega) (by omega) at01.out).mono ?_
  rintro e w1 ⟨rfl, hb1⟩
  have B2 := B1.trans (hb1.mono B1.size)
  have ba02 := Lib.hid (ba01.out.below hb1 ba01.out.lt)
  have at02 := Lib.hid (at01.out.below hb1 hb1.size)
  have hcba02 := fun i => ba02.out.cell i
  by_cases hk0 : ((t0.bulk : Nat) : Int) ≤ 1048576
  rotate_left
  · have hv := szv_gt (b := t0.bulk) (left := 1048576) (by omega)
    go_wp2_with fail
    go_ret
    exact ⟨rfl, B2⟩
  have hv0 := szv_le hk0
  have hge0 : 0 ≤ 1048576 - ((t0.bulk : Nat) : Int) := by omega
  have hm0 : t0.bulk ≤ 1048576 := by omega
  go_wp2_with fail
  refine (toTyped' t0 A01 c01 A02 c02 A03 c03 A04 c04 _ hm0 at02.out).mono ?_
  rintro e w2 ⟨D01, d01, D02, d02, D03, d03, D04, d04, rfl, owd0, hb2⟩
  have B3 := B2.trans (hb2.mono B2.size)
  have ba03 := Lib.hid (ba02.out.below hb2 ba02.out.lt)
  have at03 := Lib.hid (at02.out.below hb2 hb2.size)
  have df03 := Lib.hid (owd0.at.keep fun b hb => ⟨hb.2, rfl⟩)
  have hcba03 := fun i => ba03.out.cell i
  go_wp2_with fail
  refine (specErase (t0.bulk + 1) t0 D01 d01 D02 d02 D03 d03 D04 d04 _ (by omega) hm0 df03.out).mono ?_
  rintro e w3 ⟨DOR1, dor1, rfl, owdoR, hb3⟩
  have B4 := B3.trans (hb3.mono B3.size)
  have ba04 := Lib.hid (ba03.out.below hb3 ba03.out.lt)
  have at04 := Lib.hid (at03.out.below hb3 hb3.size)
  have df04 := Lib.hid (df03.out.below hb3 hb3.size)
  have Xba0_W := Lib.hid (show w.heap.size < (w2).heap.size from ba03.out.lt)
  have WW := Lib.hid (show w.heap.size ≤ (w2).heap.size from B3.size)
  have OW4 := Lib.hid (owdoR)
  have LW4 := Lib.hid (show w3.heap.size ≤ (w3).heap.size from Nat.le_refl _)
  have hcba04 := fun i => ba04.out.cell i
  have E5 : Below (w3).heap.size (w3) (w3.alloc (.cells #[.int .i64 (t0.erase).op, .int .i64 (t0.erase).n, .string (t0.erase).s, .string (t0.erase).t, .slice DOR1 (t0.erase).kids.length dor1] 32)) := (Below.refl _ _).alloc (Nat.le_refl _) _
  have B5 : Below w.heap.size w (w3.alloc (.cells #[.int .i64 (t0.erase).op, .int .i64 (t0.erase).n, .string (t0.erase).s, .string (t0.erase).t, .slice DOR1 (t0.erase).kids.length dor1] 32)) := B4.alloc B4.size _
  have ba05 := Lib.hid (Row.alloc ba04.out (.cells #[.int .i64 (t0.erase).op, .int .i64 (t0.erase).n, .string (t0.erase).s, .string (t0.erase).t, .slice DOR1 (t0.erase).kids.length dor1] 32))
  have bw5 := Lib.hid (Row.new' (w3) 32 #[.int .i64 (t0.erase).op, .int .i64 (t0.erase).n, .string (t0.erase).s, .string (t0.erase).t, .slice DOR1 (t0.erase).kids.length dor1] (g := w3.heap.size) rfl)
  have at05 := Lib.hid (at04.out.below E5 E5.size)
  have OW5 := Lib.hid (OW4.out.keep (S' := Btw ((w2).heap.size) (w3.heap.size)) (w' := w3.alloc (.cells #[.int .i64 (t0.erase).op, .int .i64 (t0.erase).n, .string (t0.erase).s, .string (t0.erase).t, .slice DOR1 (t0.erase).kids.length dor1] 32)) fun b hb => ⟨hb, Below.heap_alloc _ _ _ (Nat.lt_of_lt_of_le hb.2 LW4.out)⟩)
  have LW5 := Lib.hid (show w3.heap.size ≤ (w3.alloc (.cells #[.int .i64 (t0.erase).op, .int .i64 (t0.erase).n, .string (t0.erase).s, .string (t0.erase).t, .slice DOR1 (t0.erase).kids.length dor1] 32)).heap.size from Nat.le_trans LW4.out E5.size)
  have YW_bw := Lib.hid (show w3.heap.size ≤ w3.heap.size from by have := LW4.out; simpa using this)
  have hcba05 := fun i => ba05.out.cell i
  have hcbw5 := fun i => bw5.out.cell i
  go_wp2_with fail
  refine (toTyped' t0 A01 c01 A02 c02 A03 c03 A04 c04 _ hm0 at05.out).mono ?_
  rintro e w4 ⟨X01, x01, X02, x02, X03, x03, X04, x04, rfl, owx0, hb4⟩
  have B6 := B5.trans (hb4.mono B5.size)
  have OW6 := Lib.hid (OW5.out.keep (S' := Btw ((w2).heap.size) (w3.heap.size)) (w' := w4) fun b hb => ⟨hb, hb4.block b (Nat.lt_of_lt_of_le hb.2 LW5.out)⟩)
  have LW6 := Lib.hid (show w3.heap.size ≤ (w4).heap.size from Nat.le_trans LW5.out hb4.size)
  have ba06 := Lib.hid (ba05.out.below hb4 ba05.out.lt)
  have bw6 := Lib.hid (bw5.out.below hb4 bw5.out.lt)
  have at06 := Lib.hid (at05.out.below hb4 hb4.size)
  have ZW_x0 := Lib.hid (show w3.heap.size ≤ (w3.alloc (.cells #[.int .i64 (t0.erase).op, .int .i64 (t0.erase).n, .string (t0.erase).s, .string (t0.erase).t, .slice DOR1 (t0.erase).kids.length dor1] 32)).heap.size from LW5.out)
  have Xba0_x0 := Lib.hid (show w.heap.size < (w3.alloc (.cells #[.int .i64 (t0.erase).op, .int .i64 (t0.erase).n, .string (t0.erase).s, .string (t0.erase).t, .slice DOR1 (t0.erase).kids.length dor1] 32)).heap.size from ba05.out.lt)
  have Xbw_x0 := Lib.hid (show w3.heap.size < (w3.alloc (.cells #[.int .i64 (t0.erase).op, .int .i64 (t0.erase).n, .string (t0.erase).s, .string (t0.erase).t, .slice DOR1 (t0.erase).kids.length dor1] 32)).heap.size from bw5.out.lt)
  have Wx0 := Lib.hid (show w.heap.size ≤ (w3.alloc (.cells #[.int .i64 (t0.erase).op, .int .i64 (t0.erase).n, .string (t0.erase).s, .string (t0.erase).t, .slice DOR1 (t0.erase).kids.length dor1] 32)).heap.size from B5.size)
  have Ox06 := Lib.hid (owx0)
  have Lx06 := Lib.hid (show w4.heap.size ≤ (w4).heap.size from Nat.le_refl _)
  have hcba06 := fun i => ba06.out.cell i
  have hcbw6 := fun i => bw6.out.cell i
  have E7 : Below (w4).heap.size (w4) (w4.alloc (.cells #[.int .i64 t0.op, .int .i64 t0.n, .string t0.s, .string t0.t, .int .i64 t0.ty.op, .int .i64 t0.ty.n, .string t0.ty.s, .slice X01 t0.ty.kids.length x01, .slice X02 t0.inst.length x02, .slice X03 t0.vars.length x03, .slice X04 t0.kids.length x04] 39)) := (Below.refl _ _).alloc (Nat.le_refl _) _
  have B7 : Below w.heap.size w (w4.alloc (.cells #[.int .i64 t0.op, .int .i64 t0.n, .string t0.s, .string t0.t, .int .i64 t0.ty.op, .int .i64 t0.ty.n, .string t0.ty.s, .slice X01 t0.ty.kids.length x01, .slice X02 t0.inst.length x02, .slice X03 t0.vars.length x03, .slice X04 t0.kids.length x04] 39)) := B6.alloc B6.size _
  have ba07 := Lib.hid (Row.alloc ba06.out (.cells #[.int .i64 t0.op, .int .i64 t0.n, .string t0.s, .string t0.t, .int .i64 t0.ty.op, .int .i64 t0.ty.n, .string t0.ty.s, .slice X01 t0.ty.kids.length x01, .slice X02 t0.inst.length x02, .slice X03 t0.vars.length x03, .slice X04 t0.kids.length x04] 39))
  have bw7 := Lib.hid (Row.alloc bw6.out (.cells #[.int .i64 t0.op, .int .i64 t0.n, .string t0.s, .string t0.t, .int .i64 t0.ty.op, .int .i64 t0.ty.n, .string t0.ty.s, .slice X01 t0.ty.kids.length x01, .slice X02 t0.inst.length x02, .slice X03 t0.vars.length x03, .slice X04 t0.kids.length x04] 39))
  have bx07 := Lib.hid (Row.new' (w4) 39 #[.int .i64 t0.op, .int .i64 t0.n, .string t0.s, .string t0.t, .int .i64 t0.ty.op, .int .i64 t0.ty.n, .string t0.ty.s, .slice X01 t0.ty.kids.length x01, .slice X02 t0.inst.length x02, .slice X03 t0.vars.length x03, .slice X04 t0.kids.length x04] (g := w4.heap.size) rfl)
  have at07 := Lib.hid (at06.out.below E7 E7.size)
  have OW7 := Lib.hid (OW6.out.keep (S' := Btw ((w2).heap.size) (w3.heap.size)) (w' := w4.alloc (.cells #[.int .i64 t0.op, .int .i64 t0.n, .string t0.s, .string t0.t, .int .i64 t0.ty.op, .int .i64 t0.ty.n, .string t0.ty.s, .slice X01 t0.ty.kids.length x01, .slice X02 t0.inst.length x02, .slice X03 t0.vars.length x03, .slice X04 t0.kids.length x04] 39)) fun b hb => ⟨hb, Below.heap_alloc _ _ _ (Nat.lt_of_lt_of_le hb.2 LW6.out)⟩)
  have LW7 := Lib.hid (show w3.heap.size ≤ (w4.alloc (.cells #[.int .i64 t0.op, .int .i64 t0.n, .string t0.s, .string t0.t, .int .i64 t0.ty.op, .int .i64 t0.ty.n, .string t0.ty.s, .slice X01 t0.ty.kids.length x01, .slice X02 t0.inst.length x02, .slice X03 t0.vars.length x03, .slice X04 t0.kids.length x04] 39)).heap.size from Nat.le_trans LW6.out E7.size)
  have Ox07 := Lib.hid (Ox06.out.keep (S' := Btw ((w3.alloc (.cells #[.int .i64 (t0.erase).op, .int .i64 (t0.erase).n, .string (t0.erase).s, .string (t0.erase).t, .slice DOR1 (t0.erase).kids.length dor1] 32)).heap.size) (w4.heap.size)) (w' := w4.alloc (.cells #[.int .i64 t0.op, .int .i64 t0.n, .string t0.s, .string t0.t, .int .i64 t0.ty.op, .int .i64 t0.ty.n, .string t0.ty.s, .slice X01 t0.ty.kids.length x01, .slice X02 t0.inst.length x02, .slice X03 t0.vars.length x03, .slice X04 t0.kids.length x04] 39)) fun b hb => ⟨hb, Below.heap_alloc _ _ _ (Nat.lt_of_lt_of_le hb.2 Lx06.out)⟩)
  have Lx07 := Lib.hid (show w4.heap.size ≤ (w4.alloc (.cells #[.int .i64 t0.op, .int .i64 t0.n, .string t0.s, .string t0.t, .int .i64 t0.ty.op, .int .i64 t0.ty.n, .string t0.ty.s, .slice X01 t0.ty.kids.length x01, .slice X02 t0.inst.length x02, .slice X03 t0.vars.length x03, .slice X04 t0.kids.length x04] 39)).heap.size from Nat.le_trans Lx06.out E7.size)
  have YW_bx0 := Lib.hid (show w3.heap.size ≤ w4.heap.size from by have := LW6.out; simpa using this)
  have Yx0_bx0 := Lib.hid (show w4.heap.size ≤ w4.heap.size from by have := Lx06.out; simpa using this)
  have hcba07 := fun i => ba07.out.cell i
  have hcbw7 := fun i => bw7.out.cell i
  have hcbx07 := fun i => bx07.out.cell i
  go_wp2_with fail
  refine (implErase (t0.bulk + 1) t0 X01 x01 X02 x02 X03 x03 X04 x04 _ (by omega) hm0 (Ox07.out.at.keep fun b hb => ⟨Nat.lt_of_lt_of_le hb.2 Lx07.out, rfl⟩)).mono ?_
  rintro e w5 ⟨GR1, gr1, rfl, owgR, hb5⟩
  have B8 := B7.trans (hb5.mono B7.size)
  have OW8 := Lib.hid (OW7.out.keep (S' := Btw ((w2).heap.size) (w3.heap.size)) (w' := w5) fun b hb => ⟨hb, hb5.block b (Nat.lt_of_lt_of_le hb.2 LW7.out)⟩)
  have LW8 := Lib.hid (show w3.heap.size ≤ (w5).heap.size from Nat.le_trans LW7.out hb5.size)
  have Ox08 := Lib.hid (Ox07.out.keep (S' := Btw ((w3.alloc (.cells #[.int .i64 (t0.erase).op, .int .i64 (t0.erase).n, .string (t0.erase).s, .string (t0.erase).t, .slice DOR1 (t0.erase).kids.length dor1] 32)).heap.size) (w4.heap.size)) (w' := w5) fun b hb => ⟨hb, hb5.block b (Nat.lt_of_lt_of_le hb.2 Lx07.out)⟩)
  have Lx08 := Lib.hid (show w4.heap.size ≤ (w5).heap.size from Nat.le_trans Lx07.out hb5.size)
  have ba08 := Lib.hid (ba07.out.below hb5 ba07.out.lt)
  have bw8 := Lib.hid (bw7.out.below hb5 bw7.out.lt)
  have bx08 := Lib.hid (bx07.out.below hb5 bx07.out.lt)
  have at08 := Lib.hid (at07.out.below hb5 hb5.size)
  have ZW_G := Lib.hid (show w3.heap.size ≤ (w4.alloc (.cells #[.int .i64 t0.op, .int .i64 t0.n, .string t0.s, .string t0.t, .int .i64 t0.ty.op, .int .i64 t0.ty.n, .string t0.ty.s, .slice X01 t0.ty.kids.length x01, .slice X02 t0.inst.length x02, .slice X03 t0.vars.length x03, .slice X04 t0.kids.length x04] 39)).heap.size from LW7.out)
  have Zx0_G := Lib.hid (show w4.heap.size ≤ (w4.alloc (.cells #[.int .i64 t0.op, .int .i64 t0.n, .string t0.s, .string t0.t, .int .i64 t0.ty.op, .int .i64 t0.ty.n, .string t0.ty.s, .slice X01 t0.ty.kids.length x01, .slice X02 t0.inst.length x02, .slice X03 t0.vars.length x03, .slice X04 t0.kids.length x04] 39)).heap.size from Lx07.out)
  have Xba0_G := Lib.hid (show w.heap.size < (w4.alloc (.cells #[.int .i64 t0.op, .int .i64 t0.n, .string t0.s, .string t0.t, .int .i64 t0.ty.op, .int .i64 t0.ty.n, .string t0.ty.s, .slice X01 t0.ty.kids.length x01, .slice X02 t0.inst.length x02, .slice X03 t0.vars.length x03, .slice X04 t0.kids.length x04] 39)).heap.size from ba07.out.lt)
  have Xbw_G := Lib.hid (show w3.heap.size < (w4.alloc (.cells #[.int .i64 t0.op, .int .i64 t0.n, .string t0.s, .string t0.t, .int .i64 t0.ty.op, .int .i64 t0.ty.n, .string t0.ty.s, .slice X01 t0.ty.kids.length x01, .slice X02 t0.inst.length x02, .slice X03 t0.vars.length x03, .slice X04 t0.kids.length x04] 39)).heap.size from bw7.out.lt)
  have Xbx0_G := Lib.hid (show w4.heap.size < (w4.alloc (.cells #[.int .i64 t0.op, .int .i64 t0.n, .string t0.s, .string t0.t, .int .i64 t0.ty.op, .int .i64 t0.ty.n, .string t0.ty.s, .slice X01 t0.ty.kids.length x01, .slice X02 t0.inst.length x02, .slice X03 t0.vars.length x03, .slice X04 t0.kids.length x04] 39)).heap.size from bx07.out.lt)
  have WG := Lib.hid (show w.heap.size ≤ (w4.alloc (.cells #[.int .i64 t0.op, .int .i64 t0.n, .string t0.s, .string t0.t, .int .i64 t0.ty.op, .int .i64 t0.ty.n, .string t0.ty.s, .slice X01 t0.ty.kids.length x01, .slice X02 t0.inst.length x02, .slice X03 t0.vars.length x03, .slice X04 t0.kids.length x04] 39)).heap.size from B7.size)
  have OG8 := Lib.hid (owgR)
  have LG8 := Lib.hid (show w5.heap.size ≤ (w5).heap.size from Nat.le_refl _)
  have hcba08 := fun i => ba08.out.cell i
  have hcbw8 := fun i => bw8.out.cell i
  have hcbx08 := fun i => bx08.out.cell i
  have E9 : Below (w5).heap.size (w5) (w5.alloc (.cells #[.int .i64 (t0.erase).op, .int .i64 (t0.erase).n, .string (t0.erase).s, .string (t0.erase).t, .slice GR1 (t0.erase).kids.length gr1] 32)) := (Below.refl _ _).alloc (Nat.le_refl _) _
  have B9 : Below w.heap.size w (w5.alloc (.cells #[.int .i64 (t0.erase).op, .int .i64 (t0.erase).n, .string (t0.erase).s, .string (t0.erase).t, .slice GR1 (t0.erase).kids.length gr1] 32)) := B8.alloc B8.size _
  have ba09 := Lib.hid (Row.alloc ba08.out (.cells #[.int .i64 (t0.erase).op, .int .i64 (t0.erase).n, .string (t0.erase).s, .string (t0.erase).t, .slice GR1 (t0.erase).kids.length gr1] 32))
  have bw9 := Lib.hid (Row.alloc bw8.out (.cells #[.int .i64 (t0.erase).op, .int .i64 (t0.erase).n, .string (t0.erase).s, .string (t0.erase).t, .slice GR1 (t0.erase).kids.length gr1] 32))
  have bx09 := Lib.hid (Row.alloc bx08.out (.cells #[.int .i64 (t0.erase).op, .int .i64 (t0.erase).n, .string (t0.erase).s, .string (t0.erase).t, .slice GR1 (t0.erase).kids.length gr1] 32))
  have bg9 := Lib.hid (Row.new' (w5) 32 #[.int .i64 (t0.erase).op, .int .i64 (t0.erase).n, .string (t0.erase).s, .string (t0.erase).t, .slice GR1 (t0.erase).kids.length gr1] (g := w5.heap.size) rfl)
  have at09 := Lib.hid (at08.out.below E9 E9.size)
  have OW9 := Lib.hid (OW8.out.keep (S' := Btw ((w2).heap.size) (w3.heap.size)) (w' := w5.alloc (.cells #[.int .i64 (t0.erase).op, .int .i64 (t0.erase).n, .string (t0.erase).s, .string (t0.erase).t, .slice GR1 (t0.erase).kids.length gr1] 32)) fun b hb => ⟨hb, Below.heap_alloc _ _ _ (Nat.lt_of_lt_of_le hb.2 LW8.out)⟩)
  have LW9 := Lib.hid (show w3.heap.size ≤ (w5.alloc (.cells #[.int .i64 (t0.erase).op, .int .i64 (t0.erase).n, .string (t0.erase).s, .string (t0.erase).t, .slice GR1 (t0.erase).kids.length gr1] 32)).heap.size from Nat.le_trans LW8.out E9.size)
  have Ox09 := Lib.hid (Ox08.out.keep (S' := Btw ((w3.alloc (.cells #[.int .i64 (t0.erase).op, .int .i64 (t0.erase).n, .string (t0.erase).s, .string (t0.erase).t, .slice DOR1 (t0.erase).kids.length dor1] 32)).heap.size) (w4.heap.size)) (w' := w5.alloc (.cells #[.int .i64 (t0.erase).op, .int .i64 (t0.erase).n, .string (t0.erase).s, .string (t0.erase).t, .slice GR1 (t0.erase).kids.length gr1] 32)) fun b hb => ⟨hb, Below.heap_alloc _ _ _ (Nat.lt_of_lt_of_le hb.2 Lx08.out)⟩)
  have Lx09 := Lib.hid (show w4.heap.size ≤ (w5.alloc (.cells #[.int .i64 (t0.erase).op, .int .i64 (t0.erase).n, .string (t0.erase).s, .string (t0.erase).t, .slice GR1 (t0.erase).kids.length gr1] 32)).heap.size from Nat.le_trans Lx08.out E9.size)
  have OG9 := Lib.hid (OG8.out.keep (S' := Btw ((w4.alloc (.cells #[.int .i64 t0.op, .int .i64 t0.n, .string t0.s, .string t0.t, .int .i64 t0.ty.op, .int .i64 t0.ty.n, .string t0.ty.s, .slice X01 t0.ty.kids.length x01, .slice X02 t0.inst.length x02, .slice X03 t0.vars.length x03, .slice X04 t0.kids.length x04] 39)).heap.size) (w5.heap.size)) (w' := w5.alloc (.cells #[.int .i64 (t0.erase).op, .int .i64 (t0.erase).n, .string (t0.erase).s, .string (t0.erase).t, .slice GR1 (t0.erase).kids.length gr1] 32)) fun b hb => ⟨hb, Below.heap_alloc _ _ _ (Nat.lt_of_lt_of_le hb.2 LG8.out)⟩)
  have LG9 := Lib.hid (show w5.heap.size ≤ (w5.alloc (.cells #[.int .i64 (t0.erase).op, .int .i64 (t0.erase).n, .string (t0.erase).s, .string (t0.erase).t, .slice GR1 (t0.erase).kids.length gr1] 32)).heap.size from Nat.le_trans LG8.out E9.size)
  have YW_bg := Lib.hid (show w3.heap.size ≤ w5.heap.size from by have := LW8.out; simpa using this)
  have Yx0_bg := Lib.hid (show w4.heap.size ≤ w5.heap.size from by have := Lx08.out; simpa using this)
  have YG_bg := Lib.hid (show w5.heap.size ≤ w5.heap.size from by have := LG8.out; simpa using this)
  have hcba09 := fun i => ba09.out.cell i
  have hcbw9 := fun i => bw9.out.cell i
  have hcbx09 := fun i => bx09.out.cell i
  have hcbg9 := fun i => bg9.out.cell i
  go_wp2_with fail
  refine (eqNode' (t0.erase) GR1 gr1 DOR1 dor1 _ (OG9.out.at.keep fun b hb => ⟨Nat.lt_of_lt_of_le hb.2 LG9.out, rfl⟩) (OW9.out.at.keep fun b hb => ⟨Nat.lt_of_lt_of_le hb.2 LW9.out, rfl⟩)).mono ?_
  rintro e w6 ⟨rfl, hb6⟩
  have B10 := B9.trans (hb6.mono B9.size)
  have OW10 := Lib.hid (OW9.out.keep (S' := Btw ((w2).heap.size) (w3.heap.size)) (w' := w6) fun b hb => ⟨hb, hb6.block b (Nat.lt_of_lt_of_le hb.2 LW9.out)⟩)
  have LW10 := Lib.hid (show w3.heap.size ≤ (w6).heap.size from Nat.le_trans LW9.out hb6.size)
  have Ox010 := Lib.hid (Ox09.out.keep (S' := Btw ((w3.alloc (.cells #[.int .i64 (t0.erase).op, .int .i64 (t0.erase).n, .string (t0.erase).s, .string (t0.erase).t, .slice DOR1 (t0.erase).kids.length dor1] 32)).heap.size) (w4.heap.size)) (w' := w6) fun b hb => ⟨hb, hb6.block b (Nat.lt_of_lt_of_le hb.2 Lx09.out)⟩)
  have Lx010 := Lib.hid (show w4.heap.size ≤ (w6).heap.size from Nat.le_trans Lx09.out hb6.size)
  have OG10 := Lib.hid (OG9.out.keep (S' := Btw ((w4.alloc (.cells #[.int .i64 t0.op, .int .i64 t0.n, .string t0.s, .string t0.t, .int .i64 t0.ty.op, .int .i64 t0.ty.n, .string t0.ty.s, .slice X01 t0.ty.kids.length x01, .slice X02 t0.inst.length x02, .slice X03 t0.vars.length x03, .slice X04 t0.kids.length x04] 39)).heap.size) (w5.heap.size)) (w' := w6) fun b hb => ⟨hb, hb6.block b (Nat.lt_of_lt_of_le hb.2 LG9.out)⟩)
  have LG10 := Lib.hid (show w5.heap.size ≤ (w6).heap.size from Nat.le_trans LG9.out hb6.size)
  have ba010 := Lib.hid (ba09.out.below hb6 ba09.out.lt)
  have bw10 := Lib.hid (bw9.out.below hb6 bw9.out.lt)
  have bx010 := Lib.hid (bx09.out.below hb6 bx09.out.lt)
  have bg10 := Lib.hid (bg9.out.below hb6 bg9.out.lt)
  have at010 := Lib.hid (at09.out.below hb6 hb6.size)
  have hcba010 := fun i => ba010.out.cell i
  have hcbw10 := fun i => bw10.out.cell i
  have hcbx010 := fun i => bx010.out.cell i
  have hcbg10 := fun i => bg10.out.cell i
  go_wp2_with fail
  have B11 : Below w.heap.size w (w6).drew := B10.drew
  have ba011 : Hid (Row (w6).drew (w.heap.size) 28 #[.int .i64 t0.op, .int .i64 t0.n, .string t0.s, .string t0.t, .int .i64 t0.ty.op, .int .i64 t0.ty.n, .string t0.ty.s, .slice A01 t0.ty.kids.length c01, .slice A02 t0.inst.length c02, .slice A03 t0.vars.length c03, .slice A04 t0.kids.length c04]) := ba010
  have bw11 : Hid (Row (w6).drew (w3.heap.size) 32 #[.int .i64 (t0.erase).op, .int .i64 (t0.erase).n, .string (t0.erase).s, .string (t0.erase).t, .slice DOR1 (t0.erase).kids.length dor1]) := bw10
  have bx011 : Hid (Row (w6).drew (w4.heap.size) 39 #[.int .i64 t0.op, .int .i64 t0.n, .string t0.s, .string t0.t, .int .i64 t0.ty.op, .int .i64 t0.ty.n, .string t0.ty.s, .slice X01 t0.ty.kids.length x01, .slice X02 t0.inst.length x02, .slice X03 t0.vars.length x03, .slice X04 t0.kids.length x04]) := bx010
  have bg11 : Hid (Row (w6).drew (w5.heap.size) 32 #[.int .i64 (t0.erase).op, .int .i64 (t0.erase).n, .string (t0.erase).s, .string (t0.erase).t, .slice GR1 (t0.erase).kids.length gr1]) := bg10
  have at011 := Lib.hid (at010.out.keep (w' := (w6).drew) (S' := Lt (w6).drew.heap.size) fun b hb => ⟨hb, rfl⟩)
  have OW11 := Lib.hid (OW10.out.keep (S' := Btw ((w2).heap.size) (w3.heap.size)) (w' := (w6).drew) fun b hb => ⟨hb, rfl⟩)
  have LW11 := Lib.hid (show w3.heap.size ≤ ((w6).drew).heap.size from Nat.le_trans LW10.out (Nat.le_refl _))
  have Ox011 := Lib.hid (Ox010.out.keep (S' := Btw ((w3.alloc (.cells #[.int .i64 (t0.erase).op, .int .i64 (t0.erase).n, .string (t0.erase).s, .string (t0.erase).t, .slice DOR1 (t0.erase).kids.length dor1] 32)).heap.size) (w4.heap.size)) (w' := (w6).drew) fun b hb => ⟨hb, rfl⟩)
  have Lx011 := Lib.hid (show w4.heap.size ≤ ((w6).drew).heap.size from Nat.le_trans Lx010.out (Nat.le_refl _))
  have OG11 := Lib.hid (OG10.out.keep (S' := Btw ((w4.alloc (.cells #[.int .i64 t0.op, .int .i64 t0.n, .string t0.s, .string t0.t, .int .i64 t0.ty.op, .int .i64 t0.ty.n, .string t0.ty.s, .slice X01 t0.ty.kids.length x01, .slice X02 t0.inst.length x02, .slice X03 t0.vars.length x03, .slice X04 t0.kids.length x04] 39)).heap.size) (w5.heap.size)) (w' := (w6).drew) fun b hb => ⟨hb, rfl⟩)
  have LG11 := Lib.hid (show w5.heap.size ≤ ((w6).drew).heap.size from Nat.le_trans LG10.out (Nat.le_refl _))
  have hcba011 := fun i => ba011.out.cell i
  have hcbw11 := fun i => bw11.out.cell i
  have hcbx011 := fun i => bx011.out.cell i
  have hcbg11 := fun i => bg11.out.cell i
  go_region_held3 (fun w' => (∀ i, w'.cell? ⟨w.heap.size, i, none⟩ = (#[.int .i64 t0.op, .int .i64 t0.n, .string t0.s, .string t0.t, .int .i64 t0.ty.op, .int .i64 t0.ty.n, .string t0.ty.s, .slice A01 t0.ty.kids.length c01, .slice A02 t0.inst.length c02, .slice A03 t0.vars.length c03, .slice A04 t0.kids.length c04] : Array Value)[i]?) ∧ (∀ i, w'.cell? ⟨w3.heap.size, i, none⟩ = (#[.int .i64 (t0.erase).op, .int .i64 (t0.erase).n, .string (t0.erase).s, .string (t0.erase).t, .slice DOR1 (t0.erase).kids.length dor1] : Array Value)[i]?) ∧ (∀ i, w'.cell? ⟨w4.heap.size, i, none⟩ = (#[.int .i64 t0.op, .int .i64 t0.n, .string t0.s, .string t0.t, .int .i64 t0.ty.op, .int .i64 t0.ty.n, .string t0.ty.s, .slice X01 t0.ty.kids.length x01, .slice X02 t0.inst.length x02, .slice X03 t0.vars.length x03, .slice X04 t0.kids.length x04] : Array Value)[i]?) ∧ (∀ i, w'.cell? ⟨w5.heap.size, i, none⟩ = (#[.int .i64 (t0.erase).op, .int .i64 (t0.erase).n, .string (t0.erase).s, .string (t0.erase).t, .slice GR1 (t0.erase).kids.length gr1] : Array Value)[i]?)) (first | exact ⟨hcba011, hcbw11, hcbx011, hcbg11⟩ | exact ⟨hcba012, hcbw12, hcbx012, hcbg12⟩ | exact ⟨hcba013, hcbw13, hcbx013, hcbg13⟩) (first
    | (go_at_call 17
       refine (toTyped' t0 A01 c01 A02 c02 A03 c03 A04 c04 _ hm0 at011.out).mono ?_
       rintro e w7 ⟨Y01, y01, Y02, y02, Y03, y03, Y04, y04, rfl, owy0, hb7⟩
       have B12 := B11.trans (hb7.mono B11.size)
       have OW12 := Lib.hid (OW11.out.keep (S' := Btw ((w2).heap.size) (w3.heap.size)) (w' := w7) fun b hb => ⟨hb, hb7.block b (Nat.lt_of_lt_of_le hb.2 LW11.out)⟩)
       have LW12 := Lib.hid (show w3.heap.size ≤ (w7).heap.size from Nat.le_trans LW11.out hb7.size)
       have Ox012 := Lib.hid (Ox011.out.keep (S' := Btw ((w3.alloc (.cells #[.int .i64 (t0.erase).op, .int .i64 (t0.erase).n, .string (t0.erase).s, .string (t0.erase).t, .slice DOR1 (t0.erase).kids.length dor1] 32)).heap.size) (w4.heap.size)) (w' := w7) fun b hb => ⟨hb, hb7.block b (Nat.lt_of_lt_of_le hb.2 Lx011.out)⟩)
       have Lx012 := Lib.hid (show w4.heap.size ≤ (w7).heap.size from Nat.le_trans Lx011.out hb7.size)
       have OG12 := Lib.hid (OG11.out.keep (S' := Btw ((w4.alloc (.cells #[.int .i64 t0.op, .int .i64 t0.n, .string t0.s, .string t0.t, .int .i64 t0.ty.op, .int .i64 t0.ty.n, .string t0.ty.s, .slice X01 t0.ty.kids.length x01, .slice X02 t0.inst.length x02, .slice X03 t0.vars.length x03, .slice X04 t0.kids.length x04] 39)).heap.size) (w5.heap.size)) (w' := w7) fun b hb => ⟨hb, hb7.block b (Nat.lt_of_lt_of_le hb.2 LG11.out)⟩)
       have LG12 := Lib.hid (show w5.heap.size ≤ (w7).heap.size from Nat.le_trans LG11.out hb7.size)
       have ba012 := Lib.hid (ba011.out.below hb7 ba011.out.lt)
       have bw12 := Lib.hid (bw11.out.below hb7 bw11.out.lt)
       have bx012 := Lib.hid (bx011.out.below hb7 bx011.out.lt)
       have bg12 := Lib.hid (bg11.out.below hb7 bg11.out.lt)
       have at012 := Lib.hid (at011.out.below hb7 hb7.size)
       have yf012 := Lib.hid (owy0.at.keep fun b hb => ⟨hb.2, rfl⟩)
       have hcba012 := fun i => ba012.out.cell i
       have hcbw12 := fun i => bw12.out.cell i
       have hcbx012 := fun i => bx012.out.cell i
       have hcbg12 := fun i => bg12.out.cell i)
    | (go_at_call 20
       refine (eqTyped' t0 X01 x01 X02 x02 X03 x03 X04 x04 Y01 y01 Y02 y02 Y03 y03 Y04 y04 _ (Ox012.out.at.keep fun b hb => ⟨Nat.lt_of_lt_of_le hb.2 Lx012.out, rfl⟩) yf012.out).mono ?_
       rintro e w8 ⟨rfl, hb8⟩
       have B13 := B12.trans (hb8.mono B12.size)
       have OW13 := Lib.hid (OW12.out.keep (S' := Btw ((w2).heap.size) (w3.heap.size)) (w' := w8) fun b hb => ⟨hb, hb8.block b (Nat.lt_of_lt_of_le hb.2 LW12.out)⟩)
       have LW13 := Lib.hid (show w3.heap.size ≤ (w8).heap.size from Nat.le_trans LW12.out hb8.size)
       have Ox013 := Lib.hid (Ox012.out.keep (S' := Btw ((w3.alloc (.cells #[.int .i64 (t0.erase).op, .int .i64 (t0.erase).n, .string (t0.erase).s, .string (t0.erase).t, .slice DOR1 (t0.erase).kids.length dor1] 32)).heap.size) (w4.heap.size)) (w' := w8) fun b hb => ⟨hb, hb8.block b (Nat.lt_of_lt_of_le hb.2 Lx012.out)⟩)
       have Lx013 := Lib.hid (show w4.heap.size ≤ (w8).heap.size from Nat.le_trans Lx012.out hb8.size)
       have OG13 := Lib.hid (OG12.out.keep (S' := Btw ((w4.alloc (.cells #[.int .i64 t0.op, .int .i64 t0.n, .string t0.s, .string t0.t, .int .i64 t0.ty.op, .int .i64 t0.ty.n, .string t0.ty.s, .slice X01 t0.ty.kids.length x01, .slice X02 t0.inst.length x02, .slice X03 t0.vars.length x03, .slice X04 t0.kids.length x04] 39)).heap.size) (w5.heap.size)) (w' := w8) fun b hb => ⟨hb, hb8.block b (Nat.lt_of_lt_of_le hb.2 LG12.out)⟩)
       have LG13 := Lib.hid (show w5.heap.size ≤ (w8).heap.size from Nat.le_trans LG12.out hb8.size)
       have ba013 := Lib.hid (ba012.out.below hb8 ba012.out.lt)
       have bw13 := Lib.hid (bw12.out.below hb8 bw12.out.lt)
       have bx013 := Lib.hid (bx012.out.below hb8 bx012.out.lt)
       have bg13 := Lib.hid (bg12.out.below hb8 bg12.out.lt)
       have at013 := Lib.hid (at012.out.below hb8 hb8.size)
       have yf013 := Lib.hid (yf012.out.below hb8 hb8.size)
       have hcba013 := fun i => ba013.out.cell i
       have hcbw13 := fun i => bw13.out.cell i
       have hcbx013 := fun i => bx013.out.cell i
       have hcbg13 := fun i => bg13.out.cell i))
  obtain ⟨k0, hk0e⟩ : ∃ k0 : Nat, k0 = 1 := ⟨_, rfl⟩
  have hcn0 : t0.cnt0 ≤ 33554432 := by have := t0.cnt0_le; have := t0.cnt_bulk; omega
  go_wp2_with fail
  refine (markTyped0 t0 X01 x01 X02 x02 X03 x03 X04 x04 k0 _ (Btw ((w3.alloc (.cells #[.int .i64 (t0.erase).op, .int .i64 (t0.erase).n, .string (t0.erase).s, .string (t0.erase).t, .slice DOR1 (t0.erase).kids.length dor1] 32)).heap.size) (w4.heap.size)) _ (by omega) (by omega) (by omega) (fun b hb => Nat.lt_of_lt_of_le hb.2 Lx013.out) Ox013.out).mono ?_
  rintro e w9 ⟨rfl, ho9, ht9⟩
  have B14 : Below w.heap.size w w9 := B13.trans (ht9.below (fun b hb => Nat.le_trans Wx0.out hb.1) B13.size)
  have OW14 := Lib.hid (OW13.out.keep (S' := Btw ((w2).heap.size) (w3.heap.size)) (w' := w9) fun b hb => ⟨hb, ht9.block b (Nat.lt_of_lt_of_le hb.2 LW13.out) (fun e => Nat.lt_irrefl _ (Nat.lt_of_lt_of_le hb.2 (Nat.le_trans ZW_x0.out e.1)))⟩)
  have LW14 := Lib.hid (show w3.heap.size ≤ (w9).heap.size from Nat.le_trans LW13.out ht9.size)
  have OG14 := Lib.hid (OG13.out.keep (S' := Btw ((w4.alloc (.cells #[.int .i64 t0.op, .int .i64 t0.n, .string t0.s, .string t0.t, .int .i64 t0.ty.op, .int .i64 t0.ty.n, .string t0.ty.s, .slice X01 t0.ty.kids.length x01, .slice X02 t0.inst.length x02, .slice X03 t0.vars.length x03, .slice X04 t0.kids.length x04] 39)).heap.size) (w5.heap.size)) (w' := w9) fun b hb => ⟨hb, ht9.block b (Nat.lt_of_lt_of_le hb.2 LG13.out) (fun e => Nat.lt_irrefl _ (Nat.lt_of_lt_of_le e.2 (Nat.le_trans Zx0_G.out hb.1)))⟩)
  have LG14 := Lib.hid (show w5.heap.size ≤ (w9).heap.size from Nat.le_trans LG13.out ht9.size)
  have ba014 : Hid (Row w9 (w.heap.size) 28 #[.int .i64 t0.op, .int .i64 t0.n, .string t0.s, .string t0.t, .int .i64 t0.ty.op, .int .i64 t0.ty.n, .string t0.ty.s, .slice A01 t0.ty.kids.length c01, .slice A02 t0.inst.length c02, .slice A03 t0.vars.length c03, .slice A04 t0.kids.length c04]) := Lib.hid ((ht9.block (w.heap.size) ba013.out.lt (fun e => Nat.lt_irrefl _ (Nat.lt_of_lt_of_le Xba0_x0.out e.1))).trans ba013.out)
  have bw14 : Hid (Row w9 (w3.heap.size) 32 #[.int .i64 (t0.erase).op, .int .i64 (t0.erase).n, .string (t0.erase).s, .string (t0.erase).t, .slice DOR1 (t0.erase).kids.length dor1]) := Lib.hid ((ht9.block (w3.heap.size) bw13.out.lt (fun e => Nat.lt_irrefl _ (Nat.lt_of_lt_of_le Xbw_x0.out e.1))).trans bw13.out)
  have bx014 : Hid (Row w9 (w4.heap.size) 39 #[.int .i64 t0.op, .int .i64 t0.n, .string t0.s, .string t0.t, .int .i64 t0.ty.op, .int .i64 t0.ty.n, .string t0.ty.s, .slice X01 t0.ty.kids.length x01, .slice X02 t0.inst.length x02, .slice X03 t0.vars.length x03, .slice X04 t0.kids.length x04]) := Lib.hid ((ht9.block (w4.heap.size) bx013.out.lt (fun e => Nat.lt_irrefl _ (Nat.lt_of_lt_of_le e.2 Yx0_bx0.out))).trans bx013.out)
  have bg14 : Hid (Row w9 (w5.heap.size) 32 #[.int .i64 (t0.erase).op, .int .i64 (t0.erase).n, .string (t0.erase).s, .string (t0.erase).t, .slice GR1 (t0.erase).kids.length gr1]) := Lib.hid ((ht9.block (w5.heap.size) bg13.out.lt (fun e => Nat.lt_irrefl _ (Nat.lt_of_lt_of_le e.2 Yx0_bg.out))).trans bg13.out)
  have at014 := Lib.hid (at00.out.below B14 B14.size)
  have hcba014 := fun i => ba014.out.cell i
  have hcbw14 := fun i => bw14.out.cell i
  have hcbx014 := fun i => bx014.out.cell i
  have hcbg14 := fun i => bg14.out.cell i
  obtain ⟨k1, hk1e⟩ : ∃ k1 : Nat, k1 = k0 + t0.cnt0 := ⟨_, rfl⟩
  rw [← hk1e]
  go_wp2_with fail
  refine (eqNode' (t0.erase) GR1 gr1 DOR1 dor1 _ (OG14.out.at.keep fun b hb => ⟨Nat.lt_of_lt_of_le hb.2 LG14.out, rfl⟩) (OW14.out.at.keep fun b hb => ⟨Nat.lt_of_lt_of_le hb.2 LW14.out, rfl⟩)).mono ?_
  rintro e w10 ⟨rfl, hb10⟩
  have B15 := B14.trans (hb10.mono B14.size)
  have OW15 := Lib.hid (OW14.out.keep (S' := Btw ((w2).heap.size) (w3.heap.size)) (w' := w10) fun b hb => ⟨hb, hb10.block b (Nat.lt_of_lt_of_le hb.2 LW14.out)⟩)
  have LW15 := Lib.hid (show w3.heap.size ≤ (w10).heap.size from Nat.le_trans LW14.out hb10.size)
  have OG15 := Lib.hid (OG14.out.keep (S' := Btw ((w4.alloc (.cells #[.int .i64 t0.op, .int .i64 t0.n, .string t0.s, .string t0.t, .int .i64 t0.ty.op, .int .i64 t0.ty.n, .string t0.ty.s, .slice X01 t0.ty.kids.length x01, .slice X02 t0.inst.length x02, .slice X03 t0.vars.length x03, .slice X04 t0.kids.length x04] 39)).heap.size) (w5.heap.size)) (w' := w10) fun b hb => ⟨hb, hb10.block b (Nat.lt_of_lt_of_le hb.2 LG14.out)⟩)
  have LG15 := Lib.hid (show w5.heap.size ≤ (w10).heap.size from Nat.le_trans LG14.out hb10.size)
  have ba015 := Lib.hid (ba014.out.below hb10 ba014.out.lt)
  have bw15 := Lib.hid (bw14.out.below hb10 bw14.out.lt)
  have bx015 := Lib.hid (bx014.out.below hb10 bx014.out.lt)
  have bg15 := Lib.hid (bg14.out.below hb10 bg14.out.lt)
  have at015 := Lib.hid (at014.out.below hb10 hb10.size)
  have hcba015 := fun i => ba015.out.cell i
  have hcbw15 := fun i => bw15.out.cell i
  have hcbx015 := fun i => bx015.out.cell i
  have hcbg15 := fun i => bg15.out.cell i
  have hcr : (t0.erase).cnt0 ≤ 2305843009213693952 := by have a := t0.erase.cnt0_le; have b := t0.erase.cnt_bulk; have c := GTyped.erase_bulk (t0.bulk + 1) t0 (by omega); omega
  go_wp2_with fail
  refine (markNode0 (t0.erase) GR1 gr1 k0 _ (Btw ((w4.alloc (.cells #[.int .i64 t0.op, .int .i64 t0.n, .string t0.s, .string t0.t, .int .i64 t0.ty.op, .int .i64 t0.ty.n, .string t0.ty.s, .slice X01 t0.ty.kids.length x01, .slice X02 t0.inst.length x02, .slice X03 t0.vars.length x03, .slice X04 t0.kids.length x04] 39)).heap.size) (w5.heap.size)) _ (by omega) (by omega) (by omega) (fun b hb => Nat.lt_of_lt_of_le hb.2 LG15.out) OG15.out).mono ?_
  rintro e w11 ⟨rfl, ho11, ht11⟩
  have B16 : Below w.heap.size w w11 := B15.trans (ht11.below (fun b hb => Nat.le_trans WG.out hb.1) B15.size)
  have OW16 := Lib.hid (OW15.out.keep (S' := Btw ((w2).heap.size) (w3.heap.size)) (w' := w11) fun b hb => ⟨hb, ht11.block b (Nat.lt_of_lt_of_le hb.2 LW15.out) (fun e => Nat.lt_irrefl _ (Nat.lt_of_lt_of_le hb.2 (Nat.le_trans ZW_G.out e.1)))⟩)
  have LW16 := Lib.hid (show w3.heap.size ≤ (w11).heap.size from Nat.le_trans LW15.out ht11.size)
  have ba016 : Hid (Row w11 (w.heap.size) 28 #[.int .i64 t0.op, .int .i64 t0.n, .string t0.s, .string t0.t, .int .i64 t0.ty.op, .int .i64 t0.ty.n, .string t0.ty.s, .slice A01 t0.ty.kids.length c01, .slice A02 t0.inst.length c02, .slice A03 t0.vars.length c03, .slice A04 t0.kids.length c04]) := Lib.hid ((ht11.block (w.heap.size) ba015.out.lt (fun e => Nat.lt_irrefl _ (Nat.lt_of_lt_of_le Xba0_G.out e.1))).trans ba015.out)
  have bw16 : Hid (Row w11 (w3.heap.size) 32 #[.int .i64 (t0.erase).op, .int .i64 (t0.erase).n, .string (t0.erase).s, .string (t0.erase).t, .slice DOR1 (t0.erase).kids.length dor1]) := Lib.hid ((ht11.block (w3.heap.size) bw15.out.lt (fun e => Nat.lt_irrefl _ (Nat.lt_of_lt_of_le Xbw_G.out e.1))).trans bw15.out)
  have bx016 : Hid (Row w11 (w4.heap.size) 39 #[.int .i64 t0.op, .int .i64 t0.n, .string t0.s, .string t0.t, .int .i64 t0.ty.op, .int .i64 t0.ty.n, .string t0.ty.s, .slice X01 t0.ty.kids.length x01, .slice X02 t0.inst.length x02, .slice X03 t0.vars.length x03, .slice X04 t0.kids.length x04]) := Lib.hid ((ht11.block (w4.heap.size) bx015.out.lt (fun e => Nat.lt_irrefl _ (Nat.lt_of_lt_of_le Xbx0_G.out e.1))).trans bx015.out)
  have bg16 : Hid (Row w11 (w5.heap.size) 32 #[.int .i64 (t0.erase).op, .int .i64 (t0.erase).n, .string (t0.erase).s, .string (t0.erase).t, .slice GR1 (t0.erase).kids.length gr1]) := Lib.hid ((ht11.block (w5.heap.size) bg15.out.lt (fun e => Nat.lt_irrefl _ (Nat.lt_of_lt_of_le e.2 YG_bg.out))).trans bg15.out)
  have at016 := Lib.hid (at00.out.below B16 B16.size)
  have OG16 := Lib.hid ho11
  have LG16 := Lib.hid (show w5.heap.size ≤ (w11).heap.size from Nat.le_trans LG15.out ht11.size)
  have hcba016 := fun i => ba016.out.cell i
  have hcbw16 := fun i => bw16.out.cell i
  have hcbx016 := fun i => bx016.out.cell i
  have hcbg16 := fun i => bg16.out.cell i
  obtain ⟨km, hkm⟩ : ∃ km : Nat, km = k0 + (t0.erase).cnt0 := ⟨_, rfl⟩
  rw [← hkm]
  go_wp2_with fail
  refine (heldNode0 (t0.erase) GR1 gr1 k0 _ _ (by omega) (by omega) (by omega) (OG16.out.at.keep fun b hb => ⟨Nat.lt_of_lt_of_le hb.2 LG16.out, rfl⟩)).mono ?_
  rintro e w12 ⟨rfl, hb12⟩
  have B17 := B16.trans (hb12.mono B16.size)
  have OW17 := Lib.hid (OW16.out.keep (S' := Btw ((w2).heap.size) (w3.heap.size)) (w' := w12) fun b hb => ⟨hb, hb12.block b (Nat.lt_of_lt_of_le hb.2 LW16.out)⟩)
  have LW17 := Lib.hid (show w3.heap.size ≤ (w12).heap.size from Nat.le_trans LW16.out hb12.size)
  have OG17 := Lib.hid (OG16.out.keep (S' := Btw ((w4.alloc (.cells #[.int .i64 t0.op, .int .i64 t0.n, .string t0.s, .string t0.t, .int .i64 t0.ty.op, .int .i64 t0.ty.n, .string t0.ty.s, .slice X01 t0.ty.kids.length x01, .slice X02 t0.inst.length x02, .slice X03 t0.vars.length x03, .slice X04 t0.kids.length x04] 39)).heap.size) (w5.heap.size)) (w' := w12) fun b hb => ⟨hb, hb12.block b (Nat.lt_of_lt_of_le hb.2 LG16.out)⟩)
  have LG17 := Lib.hid (show w5.heap.size ≤ (w12).heap.size from Nat.le_trans LG16.out hb12.size)
  have ba017 := Lib.hid (ba016.out.below hb12 ba016.out.lt)
  have bw17 := Lib.hid (bw16.out.below hb12 bw16.out.lt)
  have bx017 := Lib.hid (bx016.out.below hb12 bx016.out.lt)
  have bg17 := Lib.hid (bg16.out.below hb12 bg16.out.lt)
  have at017 := Lib.hid (at016.out.below hb12 hb12.size)
  have hcba017 := fun i => ba017.out.cell i
  have hcbw17 := fun i => bw17.out.cell i
  have hcbx017 := fun i => bx017.out.cell i
  have hcbg17 := fun i => bg17.out.cell i
  rw [← hkm]
  go_wp2_with fail
  refine (toTyped' t0 A01 c01 A02 c02 A03 c03 A04 c04 _ hm0 at017.out).mono ?_
  rintro e w13 ⟨Z01, z01, Z02, z02, Z03, z03, Z04, z04, rfl, owz0, hb13⟩
  have B18 := B17.trans (hb13.mono B17.size)
  have OW18 := Lib.hid (OW17.out.keep (S' := Btw ((w2).heap.size) (w3.heap.size)) (w' := w13) fun b hb => ⟨hb, hb13.block b (Nat.lt_of_lt_of_le hb.2 LW17.out)⟩)
  have LW18 := Lib.hid (show w3.heap.size ≤ (w13).heap.size from Nat.le_trans LW17.out hb13.size)
  have OG18 := Lib.hid (OG17.out.keep (S' := Btw ((w4.alloc (.cells #[.int .i64 t0.op, .int .i64 t0.n, .string t0.s, .string t0.t, .int .i64 t0.ty.op, .int .i64 t0.ty.n, .string t0.ty.s, .slice X01 t0.ty.kids.length x01, .slice X02 t0.inst.length x02, .slice X03 t0.vars.length x03, .slice X04 t0.kids.length x04] 39)).heap.size) (w5.heap.size)) (w' := w13) fun b hb => ⟨hb, hb13.block b (Nat.lt_of_lt_of_le hb.2 LG17.out)⟩)
  have LG18 := Lib.hid (show w5.heap.size ≤ (w13).heap.size from Nat.le_trans LG17.out hb13.size)
  have ba018 := Lib.hid (ba017.out.below hb13 ba017.out.lt)
  have bw18 := Lib.hid (bw17.out.below hb13 bw17.out.lt)
  have bx018 := Lib.hid (bx017.out.below hb13 bx017.out.lt)
  have bg18 := Lib.hid (bg17.out.below hb13 bg17.out.lt)
  have at018 := Lib.hid (at017.out.below hb13 hb13.size)
  have zf018 := Lib.hid (owz0.at.keep fun b hb => ⟨hb.2, rfl⟩)
  have hcba018 := fun i => ba018.out.cell i
  have hcbw18 := fun i => bw18.out.cell i
  have hcbx018 := fun i => bx018.out.cell i
  have hcbg18 := fun i => bg18.out.cell i
  go_wp2_with fail
  refine (implErase (t0.bulk + 1) t0 Z01 z01 Z02 z02 Z03 z03 Z04 z04 _ (by omega) hm0 zf018.out).mono ?_
  rintro e w14 ⟨ZOR1, zor1, rfl, owzoR, hb14⟩
  have B19 := B18.trans (hb14.mono B18.size)
  have OW19 := Lib.hid (OW18.out.keep (S' := Btw ((w2).heap.size) (w3.heap.size)) (w' := w14) fun b hb => ⟨hb, hb14.block b (Nat.lt_of_lt_of_le hb.2 LW18.out)⟩)
  have LW19 := Lib.hid (show w3.heap.size ≤ (w14).heap.size from Nat.le_trans LW18.out hb14.size)
  have OG19 := Lib.hid (OG18.out.keep (S' := Btw ((w4.alloc (.cells #[.int .i64 t0.op, .int .i64 t0.n, .string t0.s, .string t0.t, .int .i64 t0.ty.op, .int .i64 t0.ty.n, .string t0.ty.s, .slice X01 t0.ty.kids.length x01, .slice X02 t0.inst.length x02, .slice X03 t0.vars.length x03, .slice X04 t0.kids.length x04] 39)).heap.size) (w5.heap.size)) (w' := w14) fun b hb => ⟨hb, hb14.block b (Nat.lt_of_lt_of_le hb.2 LG18.out)⟩)
  have LG19 := Lib.hid (show w5.heap.size ≤ (w14).heap.size from Nat.le_trans LG18.out hb14.size)
  have ba019 := Lib.hid (ba018.out.below hb14 ba018.out.lt)
  have bw19 := Lib.hid (bw18.out.below hb14 bw18.out.lt)
  have bx019 := Lib.hid (bx018.out.below hb14 bx018.out.lt)
  have bg19 := Lib.hid (bg18.out.below hb14 bg18.out.lt)
  have at019 := Lib.hid (at018.out.below hb14 hb14.size)
  have zf019 := Lib.hid (zf018.out.below hb14 hb14.size)
  have ZW_H := Lib.hid (show w3.heap.size ≤ (w13).heap.size from LW18.out)
  have ZG_H := Lib.hid (show w5.heap.size ≤ (w13).heap.size from LG18.out)
  have Xba0_H := Lib.hid (show w.heap.size < (w13).heap.size from ba018.out.lt)
  have Xbw_H := Lib.hid (show w3.heap.size < (w13).heap.size from bw18.out.lt)
  have Xbx0_H := Lib.hid (show w4.heap.size < (w13).heap.size from bx018.out.lt)
  have Xbg_H := Lib.hid (show w5.heap.size < (w13).heap.size from bg18.out.lt)
  have WH := Lib.hid (show w.heap.size ≤ (w13).heap.size from B18.size)
  have OH19 := Lib.hid (owzoR)
  have LH19 := Lib.hid (show w14.heap.size ≤ (w14).heap.size from Nat.le_refl _)
  have hcba019 := fun i => ba019.out.cell i
  have hcbw19 := fun i => bw19.out.cell i
  have hcbx019 := fun i => bx019.out.cell i
  have hcbg19 := fun i => bg19.out.cell i
  have E20 : Below (w14).heap.size (w14) (w14.alloc (.cells #[.int .i64 (t0.erase).op, .int .i64 (t0.erase).n, .string (t0.erase).s, .string (t0.erase).t, .slice ZOR1 (t0.erase).kids.length zor1] 32)) := (Below.refl _ _).alloc (Nat.le_refl _) _
  have B20 : Below w.heap.size w (w14.alloc (.cells #[.int .i64 (t0.erase).op, .int .i64 (t0.erase).n, .string (t0.erase).s, .string (t0.erase).t, .slice ZOR1 (t0.erase).kids.length zor1] 32)) := B19.alloc B19.size _
  have ba020 := Lib.hid (Row.alloc ba019.out (.cells #[.int .i64 (t0.erase).op, .int .i64 (t0.erase).n, .string (t0.erase).s, .string (t0.erase).t, .slice ZOR1 (t0.erase).kids.length zor1] 32))
  have bw20 := Lib.hid (Row.alloc bw19.out (.cells #[.int .i64 (t0.erase).op, .int .i64 (t0.erase).n, .string (t0.erase).s, .string (t0.erase).t, .slice ZOR1 (t0.erase).kids.length zor1] 32))
  have bx020 := Lib.hid (Row.alloc bx019.out (.cells #[.int .i64 (t0.erase).op, .int .i64 (t0.erase).n, .string (t0.erase).s, .string (t0.erase).t, .slice ZOR1 (t0.erase).kids.length zor1] 32))
  have bg20 := Lib.hid (Row.alloc bg19.out (.cells #[.int .i64 (t0.erase).op, .int .i64 (t0.erase).n, .string (t0.erase).s, .string (t0.erase).t, .slice ZOR1 (t0.erase).kids.length zor1] 32))
  have bh20 := Lib.hid (Row.new' (w14) 32 #[.int .i64 (t0.erase).op, .int .i64 (t0.erase).n, .string (t0.erase).s, .string (t0.erase).t, .slice ZOR1 (t0.erase).kids.length zor1] (g := w14.heap.size) rfl)
  have at020 := Lib.hid (at019.out.below E20 E20.size)
  have OW20 := Lib.hid (OW19.out.keep (S' := Btw ((w2).heap.size) (w3.heap.size)) (w' := w14.alloc (.cells #[.int .i64 (t0.erase).op, .int .i64 (t0.erase).n, .string (t0.erase).s, .string (t0.erase).t, .slice ZOR1 (t0.erase).kids.length zor1] 32)) fun b hb => ⟨hb, Below.heap_alloc _ _ _ (Nat.lt_of_lt_of_le hb.2 LW19.out)⟩)
  have LW20 := Lib.hid (show w3.heap.size ≤ (w14.alloc (.cells #[.int .i64 (t0.erase).op, .int .i64 (t0.erase).n, .string (t0.erase).s, .string (t0.erase).t, .slice ZOR1 (t0.erase).kids.length zor1] 32)).heap.size from Nat.le_trans LW19.out E20.size)
  have OG20 := Lib.hid (OG19.out.keep (S' := Btw ((w4.alloc (.cells #[.int .i64 t0.op, .int .i64 t0.n, .string t0.s, .string t0.t, .int .i64 t0.ty.op, .int .i64 t0.ty.n, .string t0.ty.s, .slice X01 t0.ty.kids.length x01, .slice X02 t0.inst.length x02, .slice X03 t0.vars.length x03, .slice X04 t0.kids.length x04] 39)).heap.size) (w5.heap.size)) (w' := w14.alloc (.cells #[.int .i64 (t0.erase).op, .int .i64 (t0.erase).n, .string (t0.erase).s, .string (t0.erase).t, .slice ZOR1 (t0.erase).kids.length zor1] 32)) fun b hb => ⟨hb, Below.heap_alloc _ _ _ (Nat.lt_of_lt_of_le hb.2 LG19.out)⟩)
  have LG20 := Lib.hid (show w5.heap.size ≤ (w14.alloc (.cells #[.int .i64 (t0.erase).op, .int .i64 (t0.erase).n, .string (t0.erase).s, .string (t0.erase).t, .slice ZOR1 (t0.erase).kids.length zor1] 32)).heap.size from Nat.le_trans LG19.out E20.size)
  have OH20 := Lib.hid (OH19.out.keep (S' := Btw ((w13).heap.size) (w14.heap.size)) (w' := w14.alloc (.cells #[.int .i64 (t0.erase).op, .int .i64 (t0.erase).n, .string (t0.erase).s, .string (t0.erase).t, .slice ZOR1 (t0.erase).kids.length zor1] 32)) fun b hb => ⟨hb, Below.heap_alloc _ _ _ (Nat.lt_of_lt_of_le hb.2 LH19.out)⟩)
  have LH20 := Lib.hid (show w14.heap.size ≤ (w14.alloc (.cells #[.int .i64 (t0.erase).op, .int .i64 (t0.erase).n, .string (t0.erase).s, .string (t0.erase).t, .slice ZOR1 (t0.erase).kids.length zor1] 32)).heap.size from Nat.le_trans LH19.out E20.size)
  have YW_bh := Lib.hid (show w3.heap.size ≤ w14.heap.size from by have := LW19.out; simpa using this)
  have YG_bh := Lib.hid (show w5.heap.size ≤ w14.heap.size from by have := LG19.out; simpa using this)
  have YH_bh := Lib.hid (show w14.heap.size ≤ w14.heap.size from by have := LH19.out; simpa using this)
  have hcba020 := fun i => ba020.out.cell i
  have hcbw20 := fun i => bw20.out.cell i
  have hcbx020 := fun i => bx020.out.cell i
  have hcbg20 := fun i => bg20.out.cell i
  have hcbh20 := fun i => bh20.out.cell i
  go_wp2_with fail
  refine (eqNode' (t0.erase) ZOR1 zor1 DOR1 dor1 _ (OH20.out.at.keep fun b hb => ⟨Nat.lt_of_lt_of_le hb.2 LH20.out, rfl⟩) (OW20.out.at.keep fun b hb => ⟨Nat.lt_of_lt_of_le hb.2 LW20.out, rfl⟩)).mono ?_
  rintro e w15 ⟨rfl, hb15⟩
  have B21 := B20.trans (hb15.mono B20.size)
  have OW21 := Lib.hid (OW20.out.keep (S' := Btw ((w2).heap.size) (w3.heap.size)) (w' := w15) fun b hb => ⟨hb, hb15.block b (Nat.lt_of_lt_of_le hb.2 LW20.out)⟩)
  have LW21 := Lib.hid (show w3.heap.size ≤ (w15).heap.size from Nat.le_trans LW20.out hb15.size)
  have OG21 := Lib.hid (OG20.out.keep (S' := Btw ((w4.alloc (.cells #[.int .i64 t0.op, .int .i64 t0.n, .string t0.s, .string t0.t, .int .i64 t0.ty.op, .int .i64 t0.ty.n, .string t0.ty.s, .slice X01 t0.ty.kids.length x01, .slice X02 t0.inst.length x02, .slice X03 t0.vars.length x03, .slice X04 t0.kids.length x04] 39)).heap.size) (w5.heap.size)) (w' := w15) fun b hb => ⟨hb, hb15.block b (Nat.lt_of_lt_of_le hb.2 LG20.out)⟩)
  have LG21 := Lib.hid (show w5.heap.size ≤ (w15).heap.size from Nat.le_trans LG20.out hb15.size)
  have OH21 := Lib.hid (OH20.out.keep (S' := Btw ((w13).heap.size) (w14.heap.size)) (w' := w15) fun b hb => ⟨hb, hb15.block b (Nat.lt_of_lt_of_le hb.2 LH20.out)⟩)
  have LH21 := Lib.hid (show w14.heap.size ≤ (w15).heap.size from Nat.le_trans LH20.out hb15.size)
  have ba021 := Lib.hid (ba020.out.below hb15 ba020.out.lt)
  have bw21 := Lib.hid (bw20.out.below hb15 bw20.out.lt)
  have bx021 := Lib.hid (bx020.out.below hb15 bx020.out.lt)
  have bg21 := Lib.hid (bg20.out.below hb15 bg20.out.lt)
  have bh21 := Lib.hid (bh20.out.below hb15 bh20.out.lt)
  have at021 := Lib.hid (at020.out.below hb15 hb15.size)
  have hcba021 := fun i => ba021.out.cell i
  have hcbw21 := fun i => bw21.out.cell i
  have hcbx021 := fun i => bx021.out.cell i
  have hcbg21 := fun i => bg21.out.cell i
  have hcbh21 := fun i => bh21.out.cell i
  go_wp2_with fail
  refine (heldNode0 (t0.erase) GR1 gr1 k0 _ _ (by omega) (by omega) (by omega) (OG21.out.at.keep fun b hb => ⟨Nat.lt_of_lt_of_le hb.2 LG21.out, rfl⟩)).mono ?_
  rintro e w16 ⟨rfl, hb16⟩
  have B22 := B21.trans (hb16.mono B21.size)
  have OW22 := Lib.hid (OW21.out.keep (S' := Btw ((w2).heap.size) (w3.heap.size)) (w' := w16) fun b hb => ⟨hb, hb16.block b (Nat.lt_of_lt_of_le hb.2 LW21.out)⟩)
  have LW22 := Lib.hid (show w3.heap.size ≤ (w16).heap.size from Nat.le_trans LW21.out hb16.size)
  have OG22 := Lib.hid (OG21.out.keep (S' := Btw ((w4.alloc (.cells #[.int .i64 t0.op, .int .i64 t0.n, .string t0.s, .string t0.t, .int .i64 t0.ty.op, .int .i64 t0.ty.n, .string t0.ty.s, .slice X01 t0.ty.kids.length x01, .slice X02 t0.inst.length x02, .slice X03 t0.vars.length x03, .slice X04 t0.kids.length x04] 39)).heap.size) (w5.heap.size)) (w' := w16) fun b hb => ⟨hb, hb16.block b (Nat.lt_of_lt_of_le hb.2 LG21.out)⟩)
  have LG22 := Lib.hid (show w5.heap.size ≤ (w16).heap.size from Nat.le_trans LG21.out hb16.size)
  have OH22 := Lib.hid (OH21.out.keep (S' := Btw ((w13).heap.size) (w14.heap.size)) (w' := w16) fun b hb => ⟨hb, hb16.block b (Nat.lt_of_lt_of_le hb.2 LH21.out)⟩)
  have LH22 := Lib.hid (show w14.heap.size ≤ (w16).heap.size from Nat.le_trans LH21.out hb16.size)
  have ba022 := Lib.hid (ba021.out.below hb16 ba021.out.lt)
  have bw22 := Lib.hid (bw21.out.below hb16 bw21.out.lt)
  have bx022 := Lib.hid (bx021.out.below hb16 bx021.out.lt)
  have bg22 := Lib.hid (bg21.out.below hb16 bg21.out.lt)
  have bh22 := Lib.hid (bh21.out.below hb16 bh21.out.lt)
  have at022 := Lib.hid (at021.out.below hb16 hb16.size)
  have hcba022 := fun i => ba022.out.cell i
  have hcbw22 := fun i => bw22.out.cell i
  have hcbx022 := fun i => bx022.out.cell i
  have hcbg22 := fun i => bg22.out.cell i
  have hcbh22 := fun i => bh22.out.cell i
  rw [← hkm]
  go_wp2_with fail
  go_ret
  exact ⟨rfl, B22⟩
end Go.Proofs.Ytjcgfbjdailgoaa
