/- The walk of the law FnExactAt. Conditions: none. -/
import Derived.Test.YtnjindgpmacjmaaAt
import Derived.Test.YtnjindgpmacjmaaAValue
import Derived.Test.YtnjindgpmacjmaaMValue
import Derived.Test.YtnjindgpmacjmaaInt
import Derived.Deep.RegionHeld3
namespace Go.Proofs.Ytnjindgpmacjmaa
open Go.RowKit
set_option linter.unusedVariables false
set_option linter.unusedSimpArgs false
set_option linter.unnecessarySimpa false
set_option maxHeartbeats 4000000

set_option maxRecDepth 20000 in
theorem walkExactAt (t0 : GValue) (A01 : Option Addr) (c01 : Nat) (t1 : List Int) (A1 : Option Addr) (c1 : Nat) (w : World) (hat0 : GValue.At w (Lt w.heap.size) A01 c01 t0) (hat1 : Sl w (Lt w.heap.size) 1 A1 c1 (t1.map (D.num .i64))) :
    Calls Try.prog 3 #[.agg #[.int .i64 t0.kind, .int .i64 t0.n, .string t0.s, .slice A01 t0.kids.length c01], .slice A1 t1.length c1] w fun e w' => e = .returned (.bool true) ∧ Below w.heap.size w w' := by
  have hln1 : t1.length ≤ 9223372036854775807 := by simpa using hat1.len
  have B0 : Below w.heap.size w w := Below.refl _ _
  have at00 := Lib.hid hat0
  have at10 := Lib.hid hat1
  clear hat0
  clear hat1
  have E1 : Below (w).heap.size (w) (w.alloc (.cells #[.int .i64 t0.kind, .int .i64 t0.n, .string t0.s, .slice A01 t0.kids.length c01] 24)) := (Below.refl _ _).alloc (Nat.le_refl _) _
  have B1 : Below w.heap.size w (w.alloc (.cells #[.int .i64 t0.kind, .int .i64 t0.n, .string t0.s, .slice A01 t0.kids.length c01] 24)) := B0.alloc B0.size _
  have ba01 := Lib.hid (Row.new' (w) 24 #[.int .i64 t0.kind, .int .i64 t0.n, .string t0.s, .slice A01 t0.kids.length c01] (g := w.heap.size) rfl)
  have at01 := Lib.hid (at00.out.below E1 E1.size)
  have at11 := Lib.hid (at10.out.below E1 E1.size)
  go_enter Try.func3, Try.ntmps3
  by_cases hg1 : 1048576 < t1.length
  · skip
    go_wp2_with fail
    go_ret
    exact ⟨rfl, B1⟩
  have hgi1 : (t1.length : Nat) ≤ 1048576 := by omega
  have hm1 : t1.length ≤ 1048576 := by omega
  go_wp2_with fail
  refine (szValue' t0 A01 c01 (1048576) _ (by omega) (by omega) at01.out).mono ?_
  rintro e w1 ⟨rfl, hb1⟩
  have B2 := B1.trans (hb1.mono B1.size)
  have ba02 := Lib.hid (ba01.out.below hb1 ba01.out.lt)
  have at02 := Lib.hid (at01.out.below hb1 hb1.size)
  have at12 := Lib.hid (at11.out.below hb1 hb1.size)
  have hcba02 := fun i => ba02.out.cell i
  by_cases hk0 : ((t0.bulk : Nat) : Int) ≤ 1048576
  rotate_left
  · have hv := szv_gt (b := t0.bulk) (left := 1048576) (by omega)
    go_wp2_with fail
    go_ret
    exact ⟨rfl, B2⟩
  have hv0 := szv_le hk0
  have hge0 : 0 ≤ 1048576 - ((t0.bulk : Nat) : Int) := by omega
  have hm0 : t0.bulk ≤ 1048576 := by omega
  go_wp2_with fail
  refine (toValue' t0 A01 c01 _ hm0 at02.out).mono ?_
  rintro e w2 ⟨D01, d01, rfl, owd0, hb2⟩
  have B3 := B2.trans (hb2.mono B2.size)
  have ba03 := Lib.hid (ba02.out.below hb2 ba02.out.lt)
  have at03 := Lib.hid (at02.out.below hb2 hb2.size)
  have at13 := Lib.hid (at12.out.below hb2 hb2.size)
  have df03 := Lib.hid (owd0.at.keep fun b hb => ⟨hb.2, rfl⟩)
  have hcba03 := fun i => ba03.out.cell i
  go_wp2_with fail
  refine (toIntS t1 A1 c1 _ at13.out hm1).mono ?_
  rintro e w3 ⟨D11, d11, rfl, owd1, hb3⟩
  have B4 := B3.trans (hb3.mono B3.size)
  have ba04 := Lib.hid (ba03.out.below hb3 ba03.out.lt)
  have at04 := Lib.hid (at03.out.below hb3 hb3.size)
  have at14 := Lib.hid (at13.out.below hb3 hb3.size)
  have df04 := Lib.hid (df03.out.below hb3 hb3.size)
  have df14 := Lib.hid (owd1.slLt)
  have hcba04 := fun i => ba04.out.cell i
  go_wp2_with fail
  refine (specAt t0 D01 d01 t1 D11 d11 _ hm0 df04.out df14.out).mono ?_
  rintro e w4 ⟨DOR1, dor1, rfl, owdoR, hb4⟩
  have B5 := B4.trans (hb4.mono B4.size)
  have ba05 := Lib.hid (ba04.out.below hb4 ba04.out.lt)
  have at05 := Lib.hid (at04.out.below hb4 hb4.size)
  have at15 := Lib.hid (at14.out.below hb4 hb4.size)
  have df05 := Lib.hid (df04.out.below hb4 hb4.size)
  have df15 := Lib.hid (df14.out.below hb4 hb4.size)
  have Xba0_W := Lib.hid (show w.heap.size < (w3).heap.size from ba04.out.lt)
  have WW := Lib.hid (show w.heap.size ≤ (w3).heap.size from B4.size)
  have OW5 := Lib.hid (owdoR)
  have LW5 := Lib.hid (show w4.heap.size ≤ (w4).heap.size from Nat.le_refl _)
  have hcba05 := fun i => ba05.out.cell i
  have E6 : Below (w4).heap.size (w4) (w4.alloc (.cells #[.int .i64 (atV (valAt t0 t1)).kind, .int .i64 (atV (valAt t0 t1)).n, .string (atV (valAt t0 t1)).s, .slice DOR1 (atV (valAt t0 t1)).kids.length dor1] 29)) := (Below.refl _ _).alloc (Nat.le_refl _) _
  have B6 : Below w.heap.size w (w4.alloc (.cells #[.int .i64 (atV (valAt t0 t1)).kind, .int .i64 (atV (valAt t0 t1)).n, .string (atV (valAt t0 t1)).s, .slice DOR1 (atV (valAt t0 t1)).kids.length dor1] 29)) := B5.alloc B5.size _
  have ba06 := Lib.hid (Row.alloc ba05.out (.cells #[.int .i64 (atV (valAt t0 t1)).kind, .int .i64 (atV (valAt t0 t1)).n, .string (atV (valAt t0 t1)).s, .slice DOR1 (atV (valAt t0 t1)).kids.length dor1] 29))
  have bw6 := Lib.hid (Row.new' (w4) 29 #[.int .i64 (atV (valAt t0 t1)).kind, .int .i64 (atV (valAt t0 t1)).n, .string (atV (valAt t0 t1)).s, .slice DOR1 (atV (valAt t0 t1)).kids.length dor1] (g := w4.heap.size) rfl)
  have at06 := Lib.hid (at05.out.below E6 E6.size)
  have at16 := Lib.hid (at15.out.below E6 E6.size)
  have OW6 := Lib.hid (OW5.out.keep (S' := Btw ((w3).heap.size) (w4.heap.size)) (w' := w4.alloc (.cells #[.int .i64 (atV (valAt t0 t1)).kind, .int .i64 (atV (valAt t0 t1)).n, .string (atV (valAt t0 t1)).s, .slice DOR1 (atV (valAt t0 t1)).kids.length dor1] 29)) fun b hb => ⟨hb, Below.heap_alloc _ _ _ (Nat.lt_of_lt_of_le hb.2 LW5.out)⟩)
  have LW6 := Lib.hid (show w4.heap.size ≤ (w4.alloc (.cells #[.int .i64 (atV (valAt t0 t1)).kind, .int .i64 (atV (valAt t0 t1)).n, .string (atV (valAt t0 t1)).s, .slice DOR1 (atV (valAt t0 t1)).kids.length dor1] 29)).heap.size from Nat.le_trans LW5.out E6.size)
  have YW_bw := Lib.hid (show w4.heap.size ≤ w4.heap.size from by have := LW5.out; simpa using this)
  have hcba06 := fun i => ba06.out.cell i
  have hcbw6 := fun i => bw6.out.cell i
  go_wp2_with fail
  refine (toValue' t0 A01 c01 _ hm0 at06.out).mono ?_
  rintro e w5 ⟨X01, x01, rfl, owx0, hb5⟩
  have B7 := B6.trans (hb5.mono B6.size)
  have OW7 := Lib.hid (OW6.out.keep (S' := Btw ((w3).heap.size) (w4.heap.size)) (w' := w5) fun b hb => ⟨hb, hb5.block b (Nat.lt_of_lt_of_le hb.2 LW6.out)⟩)
  have LW7 := Lib.hid (show w4.heap.size ≤ (w5).heap.size from Nat.le_trans LW6.out hb5.size)
  have ba07 := Lib.hid (ba06.out.below hb5 ba06.out.lt)
  have bw7 := Lib.hid (bw6.out.below hb5 bw6.out.lt)
  have at07 := Lib.hid (at06.out.below hb5 hb5.size)
  have at17 := Lib.hid (at16.out.below hb5 hb5.size)
  have ZW_x0 := Lib.hid (show w4.heap.size ≤ (w4.alloc (.cells #[.int .i64 (atV (valAt t0 t1)).kind, .int .i64 (atV (valAt t0 t1)).n, .string (atV (valAt t0 t1)).s, .slice DOR1 (atV (valAt t0 t1)).kids.length dor1] 29)).heap.size from LW6.out)
  have Xba0_x0 := Lib.hid (show w.heap.size < (w4.alloc (.cells #[.int .i64 (atV (valAt t0 t1)).kind, .int .i64 (atV (valAt t0 t1)).n, .string (atV (valAt t0 t1)).s, .slice DOR1 (atV (valAt t0 t1)).kids.length dor1] 29)).heap.size from ba06.out.lt)
  have Xbw_x0 := Lib.hid (show w4.heap.size < (w4.alloc (.cells #[.int .i64 (atV (valAt t0 t1)).kind, .int .i64 (atV (valAt t0 t1)).n, .string (atV (valAt t0 t1)).s, .slice DOR1 (atV (valAt t0 t1)).kids.length dor1] 29)).heap.size from bw6.out.lt)
  have Wx0 := Lib.hid (show w.heap.size ≤ (w4.alloc (.cells #[.int .i64 (atV (valAt t0 t1)).kind, .int .i64 (atV (valAt t0 t1)).n, .string (atV (valAt t0 t1)).s, .slice DOR1 (atV (valAt t0 t1)).kids.length dor1] 29)).heap.size from B6.size)
  have Ox07 := Lib.hid (owx0)
  have Lx07 := Lib.hid (show w5.heap.size ≤ (w5).heap.size from Nat.le_refl _)
  have hcba07 := fun i => ba07.out.cell i
  have hcbw7 := fun i => bw7.out.cell i
  have E8 : Below (w5).heap.size (w5) (w5.alloc (.cells #[.int .i64 t0.kind, .int .i64 t0.n, .string t0.s, .slice X01 t0.kids.length x01] 29)) := (Below.refl _ _).alloc (Nat.le_refl _) _
  have B8 : Below w.heap.size w (w5.alloc (.cells #[.int .i64 t0.kind, .int .i64 t0.n, .string t0.s, .slice X01 t0.kids.length x01] 29)) := B7.alloc B7.size _
  have ba08 := Lib.hid (Row.alloc ba07.out (.cells #[.int .i64 t0.kind, .int .i64 t0.n, .string t0.s, .slice X01 t0.kids.length x01] 29))
  have bw8 := Lib.hid (Row.alloc bw7.out (.cells #[.int .i64 t0.kind, .int .i64 t0.n, .string t0.s, .slice X01 t0.kids.length x01] 29))
  have bx08 := Lib.hid (Row.new' (w5) 29 #[.int .i64 t0.kind, .int .i64 t0.n, .string t0.s, .slice X01 t0.kids.length x01] (g := w5.heap.size) rfl)
  have at08 := Lib.hid (at07.out.below E8 E8.size)
  have at18 := Lib.hid (at17.out.below E8 E8.size)
  have OW8 := Lib.hid (OW7.out.keep (S' := Btw ((w3).heap.size) (w4.heap.size)) (w' := w5.alloc (.cells #[.int .i64 t0.kind, .int .i64 t0.n, .string t0.s, .slice X01 t0.kids.length x01] 29)) fun b hb => ⟨hb, Below.heap_alloc _ _ _ (Nat.lt_of_lt_of_le hb.2 LW7.out)⟩)
  have LW8 := Lib.hid (show w4.heap.size ≤ (w5.alloc (.cells #[.int .i64 t0.kind, .int .i64 t0.n, .string t0.s, .slice X01 t0.kids.length x01] 29)).heap.size from Nat.le_trans LW7.out E8.size)
  have Ox08 := Lib.hid (Ox07.out.keep (S' := Btw ((w4.alloc (.cells #[.int .i64 (atV (valAt t0 t1)).kind, .int .i64 (atV (valAt t0 t1)).n, .string (atV (valAt t0 t1)).s, .slice DOR1 (atV (valAt t0 t1)).kids.length dor1] 29)).heap.size) (w5.heap.size)) (w' := w5.alloc (.cells #[.int .i64 t0.kind, .int .i64 t0.n, .string t0.s, .slice X01 t0.kids.length x01] 29)) fun b hb => ⟨hb, Below.heap_alloc _ _ _ (Nat.lt_of_lt_of_le hb.2 Lx07.out)⟩)
  have Lx08 := Lib.hid (show w5.heap.size ≤ (w5.alloc (.cells #[.int .i64 t0.kind, .int .i64 t0.n, .string t0.s, .slice X01 t0.kids.length x01] 29)).heap.size from Nat.le_trans Lx07.out E8.size)
  have YW_bx0 := Lib.hid (show w4.heap.size ≤ w5.heap.size from by have := LW7.out; simpa using this)
  have Yx0_bx0 := Lib.hid (show w5.heap.size ≤ w5.heap.size from by have := Lx07.out; simpa using this)
  have hcba08 := fun i => ba08.out.cell i
  have hcbw8 := fun i => bw8.out.cell i
  have hcbx08 := fun i => bx08.out.cell i
  go_wp2_with fail
  refine (toIntS t1 A1 c1 _ at18.out hm1).mono ?_
  rintro e w6 ⟨X11, x11, rfl, owx1, hb6⟩
  have B9 := B8.trans (hb6.mono B8.size)
  have OW9 := Lib.hid (OW8.out.keep (S' := Btw ((w3).heap.size) (w4.heap.size)) (w' := w6) fun b hb => ⟨hb, hb6.block b (Nat.lt_of_lt_of_le hb.2 LW8.out)⟩)
  have LW9 := Lib.hid (show w4.heap.size ≤ (w6).heap.size from Nat.le_trans LW8.out hb6.size)
  have Ox09 := Lib.hid (Ox08.out.keep (S' := Btw ((w4.alloc (.cells #[.int .i64 (atV (valAt t0 t1)).kind, .int .i64 (atV (valAt t0 t1)).n, .string (atV (valAt t0 t1)).s, .slice DOR1 (atV (valAt t0 t1)).kids.length dor1] 29)).heap.size) (w5.heap.size)) (w' := w6) fun b hb => ⟨hb, hb6.block b (Nat.lt_of_lt_of_le hb.2 Lx08.out)⟩)
  have Lx09 := Lib.hid (show w5.heap.size ≤ (w6).heap.size from Nat.le_trans Lx08.out hb6.size)
  have ba09 := Lib.hid (ba08.out.below hb6 ba08.out.lt)
  have bw9 := Lib.hid (bw8.out.below hb6 bw8.out.lt)
  have bx09 := Lib.hid (bx08.out.below hb6 bx08.out.lt)
  have at09 := Lib.hid (at08.out.below hb6 hb6.size)
  have at19 := Lib.hid (at18.out.below hb6 hb6.size)
  have ZW_x1 := Lib.hid (show w4.heap.size ≤ (w5.alloc (.cells #[.int .i64 t0.kind, .int .i64 t0.n, .string t0.s, .slice X01 t0.kids.length x01] 29)).heap.size from LW8.out)
  have Zx0_x1 := Lib.hid (show w5.heap.size ≤ (w5.alloc (.cells #[.int .i64 t0.kind, .int .i64 t0.n, .string t0.s, .slice X01 t0.kids.length x01] 29)).heap.size from Lx08.out)
  have Xba0_x1 := Lib.hid (show w.heap.size < (w5.alloc (.cells #[.int .i64 t0.kind, .int .i64 t0.n, .string t0.s, .slice X01 t0.kids.length x01] 29)).heap.size from ba08.out.lt)
  have Xbw_x1 := Lib.hid (show w4.heap.size < (w5.alloc (.cells #[.int .i64 t0.kind, .int .i64 t0.n, .string t0.s, .slice X01 t0.kids.length x01] 29)).heap.size from bw8.out.lt)
  have Xbx0_x1 := Lib.hid (show w5.heap.size < (w5.alloc (.cells #[.int .i64 t0.kind, .int .i64 t0.n, .string t0.s, .slice X01 t0.kids.length x01] 29)).heap.size from bx08.out.lt)
  have Wx1 := Lib.hid (show w.heap.size ≤ (w5.alloc (.cells #[.int .i64 t0.kind, .int .i64 t0.n, .string t0.s, .slice X01 t0.kids.length x01] 29)).heap.size from B8.size)
  have Ox19 := Lib.hid (owx1)
  have Lx19 := Lib.hid (show w6.heap.size ≤ (w6).heap.size from Nat.le_refl _)
  have hcba09 := fun i => ba09.out.cell i
  have hcbw9 := fun i => bw9.out.cell i
  have hcbx09 := fun i => bx09.out.cell i
  go_wp2_with fail
  refine (implAt t0 X01 x01 t1 X11 x11 _ hm0 (Ox09.out.at.keep fun b hb => ⟨Nat.lt_of_lt_of_le hb.2 Lx09.out, rfl⟩) (Ox19.out.sl.keep fun b hb => ⟨Nat.lt_of_lt_of_le hb.2 Lx19.out, rfl⟩)).mono ?_
  rintro e w7 ⟨GR1, gr1, rfl, owgR, hb7⟩
  have B10 := B9.trans (hb7.mono B9.size)
  have OW10 := Lib.hid (OW9.out.keep (S' := Btw ((w3).heap.size) (w4.heap.size)) (w' := w7) fun b hb => ⟨hb, hb7.block b (Nat.lt_of_lt_of_le hb.2 LW9.out)⟩)
  have LW10 := Lib.hid (show w4.heap.size ≤ (w7).heap.size from Nat.le_trans LW9.out hb7.size)
  have Ox010 := Lib.hid (Ox09.out.keep (S' := Btw ((w4.alloc (.cells #[.int .i64 (atV (valAt t0 t1)).kind, .int .i64 (atV (valAt t0 t1)).n, .string (atV (valAt t0 t1)).s, .slice DOR1 (atV (valAt t0 t1)).kids.length dor1] 29)).heap.size) (w5.heap.size)) (w' := w7) fun b hb => ⟨hb, hb7.block b (Nat.lt_of_lt_of_le hb.2 Lx09.out)⟩)
  have Lx010 := Lib.hid (show w5.heap.size ≤ (w7).heap.size from Nat.le_trans Lx09.out hb7.size)
  have Ox110 := Lib.hid (Ox19.out.keep (S' := Btw ((w5.alloc (.cells #[.int .i64 t0.kind, .int .i64 t0.n, .string t0.s, .slice X01 t0.kids.length x01] 29)).heap.size) (w6.heap.size)) (w' := w7) fun b hb => ⟨hb, hb7.block b (Nat.lt_of_lt_of_le hb.2 Lx19.out)⟩)
  have Lx110 := Lib.hid (show w6.heap.size ≤ (w7).heap.size from Nat.le_trans Lx19.out hb7.size)
  have ba010 := Lib.hid (ba09.out.below hb7 ba09.out.lt)
  have bw10 := Lib.hid (bw9.out.below hb7 bw9.out.lt)
  have bx010 := Lib.hid (bx09.out.below hb7 bx09.out.lt)
  have at010 := Lib.hid (at09.out.below hb7 hb7.size)
  have at110 := Lib.hid (at19.out.below hb7 hb7.size)
  have ZW_G := Lib.hid (show w4.heap.size ≤ (w6).heap.size from LW9.out)
  have Zx0_G := Lib.hid (show w5.heap.size ≤ (w6).heap.size from Lx09.out)
  have Zx1_G := Lib.hid (show w6.heap.size ≤ (w6).heap.size from Lx19.out)
  have Xba0_G := Lib.hid (show w.heap.size < (w6).heap.size from ba09.out.lt)
  have Xbw_G := Lib.hid (show w4.heap.size < (w6).heap.size from bw9.out.lt)
  have Xbx0_G := Lib.hid (show w5.heap.size < (w6).heap.size from bx09.out.lt)
  have WG := Lib.hid (show w.heap.size ≤ (w6).heap.size from B9.size)
  have OG10 := Lib.hid (owgR)
  have LG10 := Lib.hid (show w7.heap.size ≤ (w7).heap.size from Nat.le_refl _)
  have hcba010 := fun i => ba010.out.cell i
  have hcbw10 := fun i => bw10.out.cell i
  have hcbx010 := fun i => bx010.out.cell i
  have E11 : Below (w7).heap.size (w7) (w7.alloc (.cells #[.int .i64 (atV (valAt t0 t1)).kind, .int .i64 (atV (valAt t0 t1)).n, .string (atV (valAt t0 t1)).s, .slice GR1 (atV (valAt t0 t1)).kids.length gr1] 29)) := (Below.refl _ _).alloc (Nat.le_refl _) _
  have B11 : Below w.heap.size w (w7.alloc (.cells #[.int .i64 (atV (valAt t0 t1)).kind, .int .i64 (atV (valAt t0 t1)).n, .string (atV (valAt t0 t1)).s, .slice GR1 (atV (valAt t0 t1)).kids.length gr1] 29)) := B10.alloc B10.size _
  have ba011 := Lib.hid (Row.alloc ba010.out (.cells #[.int .i64 (atV (valAt t0 t1)).kind, .int .i64 (atV (valAt t0 t1)).n, .string (atV (valAt t0 t1)).s, .slice GR1 (atV (valAt t0 t1)).kids.length gr1] 29))
  have bw11 := Lib.hid (Row.alloc bw10.out (.cells #[.int .i64 (atV (valAt t0 t1)).kind, .int .i64 (atV (valAt t0 t1)).n, .string (atV (valAt t0 t1)).s, .slice GR1 (atV (valAt t0 t1)).kids.length gr1] 29))
  have bx011 := Lib.hid (Row.alloc bx010.out (.cells #[.int .i64 (atV (valAt t0 t1)).kind, .int .i64 (atV (valAt t0 t1)).n, .string (atV (valAt t0 t1)).s, .slice GR1 (atV (valAt t0 t1)).kids.length gr1] 29))
  have bg11 := Lib.hid (Row.new' (w7) 29 #[.int .i64 (atV (valAt t0 t1)).kind, .int .i64 (atV (valAt t0 t1)).n, .string (atV (valAt t0 t1)).s, .slice GR1 (atV (valAt t0 t1)).kids.length gr1] (g := w7.heap.size) rfl)
  have at011 := Lib.hid (at010.out.below E11 E11.size)
  have at111 := Lib.hid (at110.out.below E11 E11.size)
  have OW11 := Lib.hid (OW10.out.keep (S' := Btw ((w3).heap.size) (w4.heap.size)) (w' := w7.alloc (.cells #[.int .i64 (atV (valAt t0 t1)).kind, .int .i64 (atV (valAt t0 t1)).n, .string (atV (valAt t0 t1)).s, .slice GR1 (atV (valAt t0 t1)).kids.length gr1] 29)) fun b hb => ⟨hb, Below.heap_alloc _ _ _ (Nat.lt_of_lt_of_le hb.2 LW10.out)⟩)
  have LW11 := Lib.hid (show w4.heap.size ≤ (w7.alloc (.cells #[.int .i64 (atV (valAt t0 t1)).kind, .int .i64 (atV (valAt t0 t1)).n, .string (atV (valAt t0 t1)).s, .slice GR1 (atV (valAt t0 t1)).kids.length gr1] 29)).heap.size from Nat.le_trans LW10.out E11.size)
  have Ox011 := Lib.hid (Ox010.out.keep (S' := Btw ((w4.alloc (.cells #[.int .i64 (atV (valAt t0 t1)).kind, .int .i64 (atV (valAt t0 t1)).n, .string (atV (valAt t0 t1)).s, .slice DOR1 (atV (valAt t0 t1)).kids.length dor1] 29)).heap.size) (w5.heap.size)) (w' := w7.alloc (.cells #[.int .i64 (atV (valAt t0 t1)).kind, .int .i64 (atV (valAt t0 t1)).n, .string (atV (valAt t0 t1)).s, .slice GR1 (atV (valAt t0 t1)).kids.length gr1] 29)) fun b hb => ⟨hb, Below.heap_alloc _ _ _ (Nat.lt_of_lt_of_le hb.2 Lx010.out)⟩)
  have Lx011 := Lib.hid (show w5.heap.size ≤ (w7.alloc (.cells #[.int .i64 (atV (valAt t0 t1)).kind, .int .i64 (atV (valAt t0 t1)).n, .string (atV (valAt t0 t1)).s, .slice GR1 (atV (valAt t0 t1)).kids.length gr1] 29)).heap.size from Nat.le_trans Lx010.out E11.size)
  have Ox111 := Lib.hid (Ox110.out.keep (S' := Btw ((w5.alloc (.cells #[.int .i64 t0.kind, .int .i64 t0.n, .string t0.s, .slice X01 t0.kids.length x01] 29)).heap.size) (w6.heap.size)) (w' := w7.alloc (.cells #[.int .i64 (atV (valAt t0 t1)).kind, .int .i64 (atV (valAt t0 t1)).n, .string (atV (valAt t0 t1)).s, .slice GR1 (atV (valAt t0 t1)).kids.length gr1] 29)) fun b hb => ⟨hb, Below.heap_alloc _ _ _ (Nat.lt_of_lt_of_le hb.2 Lx110.out)⟩)
  have Lx111 := Lib.hid (show w6.heap.size ≤ (w7.alloc (.cells #[.int .i64 (atV (valAt t0 t1)).kind, .int .i64 (atV (valAt t0 t1)).n, .string (atV (valAt t0 t1)).s, .slice GR1 (atV (valAt t0 t1)).kids.length gr1] 29)).heap.size from Nat.le_trans Lx110.out E11.size)
  have OG11 := Lib.hid (OG10.out.keep (S' := Btw ((w6).heap.size) (w7.heap.size)) (w' := w7.alloc (.cells #[.int .i64 (atV (valAt t0 t1)).kind, .int .i64 (atV (valAt t0 t1)).n, .string (atV (valAt t0 t1)).s, .slice GR1 (atV (valAt t0 t1)).kids.length gr1] 29)) fun b hb => ⟨hb, Below.heap_alloc _ _ _ (Nat.lt_of_lt_of_le hb.2 LG10.out)⟩)
  have LG11 := Lib.hid (show w7.heap.size ≤ (w7.alloc (.cells #[.int .i64 (atV (valAt t0 t1)).kind, .int .i64 (atV (valAt t0 t1)).n, .string (atV (valAt t0 t1)).s, .slice GR1 (atV (valAt t0 t1)).kids.length gr1] 29)).heap.size from Nat.le_trans LG10.out E11.size)
  have YW_bg := Lib.hid (show w4.heap.size ≤ w7.heap.size from by have := LW10.out; simpa using this)
  have Yx0_bg := Lib.hid (show w5.heap.size ≤ w7.heap.size from by have := Lx010.out; simpa using this)
  have Yx1_bg := Lib.hid (show w6.heap.size ≤ w7.heap.size from by have := Lx110.out; simpa using this)
  have YG_bg := Lib.hid (show w7.heap.size ≤ w7.heap.size from by have := LG10.out; simpa using this)
  have hcba011 := fun i => ba011.out.cell i
  have hcbw11 := fun i => bw11.out.cell i
  have hcbx011 := fun i => bx011.out.cell i
  have hcbg11 := fun i => bg11.out.cell i
  go_wp2_with fail
  refine (eqValue' (atV (valAt t0 t1)) GR1 gr1 DOR1 dor1 _ (OG11.out.at.keep fun b hb => ⟨Nat.lt_of_lt_of_le hb.2 LG11.out, rfl⟩) (OW11.out.at.keep fun b hb => ⟨Nat.lt_of_lt_of_le hb.2 LW11.out, rfl⟩)).mono ?_
  rintro e w8 ⟨rfl, hb8⟩
  have B12 := B11.trans (hb8.mono B11.size)
  have OW12 := Lib.hid (OW11.out.keep (S' := Btw ((w3).heap.size) (w4.heap.size)) (w' := w8) fun b hb => ⟨hb, hb8.block b (Nat.lt_of_lt_of_le hb.2 LW11.out)⟩)
  have LW12 := Lib.hid (show w4.heap.size ≤ (w8).heap.size from Nat.le_trans LW11.out hb8.size)
  have Ox012 := Lib.hid (Ox011.out.keep (S' := Btw ((w4.alloc (.cells #[.int .i64 (atV (valAt t0 t1)).kind, .int .i64 (atV (valAt t0 t1)).n, .string (atV (valAt t0 t1)).s, .slice DOR1 (atV (valAt t0 t1)).kids.length dor1] 29)).heap.size) (w5.heap.size)) (w' := w8) fun b hb => ⟨hb, hb8.block b (Nat.lt_of_lt_of_le hb.2 Lx011.out)⟩)
  have Lx012 := Lib.hid (show w5.heap.size ≤ (w8).heap.size from Nat.le_trans Lx011.out hb8.size)
  have Ox112 := Lib.hid (Ox111.out.keep (S' := Btw ((w5.alloc (.cells #[.int .i64 t0.kind, .int .i64 t0.n, .string t0.s, .slice X01 t0.kids.length x01] 29)).heap.size) (w6.heap.size)) (w' := w8) fun b hb => ⟨hb, hb8.block b (Nat.lt_of_lt_of_le hb.2 Lx111.out)⟩)
  have Lx112 := Lib.hid (show w6.heap.size ≤ (w8).heap.size from Nat.le_trans Lx111.out hb8.size)
  have OG12 := Lib.hid (OG11.out.keep (S' := Btw ((w6).heap.size) (w7.heap.size)) (w' := w8) fun b hb => ⟨hb, hb8.block b (Nat.lt_of_lt_of_le hb.2 LG11.out)⟩)
  have LG12 := Lib.hid (show w7.heap.size ≤ (w8).heap.size from Nat.le_trans LG11.out hb8.size)
  have ba012 := Lib.hid (ba011.out.below hb8 ba011.out.lt)
  have bw12 := Lib.hid (bw11.out.below hb8 bw11.out.lt)
  have bx012 := Lib.hid (bx011.out.below hb8 bx011.out.lt)
  have bg12 := Lib.hid (bg11.out.below hb8 bg11.out.lt)
  have at012 := Lib.hid (at011.out.below hb8 hb8.size)
  have at112 := Lib.hid (at111.out.below hb8 hb8.size)
  have hcba012 := fun i => ba012.out.cell i
  have hcbw12 := fun i => bw12.out.cell i
  have hcbx012 := fun i => bx012.out.cell i
  have hcbg12 := fun i => bg12.out.cell i
  go_wp2_with fail
  have B13 : Below w.heap.size w (w8).drew := B12.drew
  have ba013 : Hid (Row (w8).drew (w.heap.size) 24 #[.int .i64 t0.kind, .int .i64 t0.n, .string t0.s, .slice A01 t0.kids.length c01]) := ba012
  have bw13 : Hid (Row (w8).drew (w4.heap.size) 29 #[.int .i64 (atV (valAt t0 t1)).kind, .int .i64 (atV (valAt t0 t1)).n, .string (atV (valAt t0 t1)).s, .slice DOR1 (atV (valAt t0 t1)).kids.length dor1]) := bw12
  have bx013 : Hid (Row (w8).drew (w5.heap.size) 29 #[.int .i64 t0.kind, .int .i64 t0.n, .string t0.s, .slice X01 t0.kids.length x01]) := bx012
  have bg13 : Hid (Row (w8).drew (w7.heap.size) 29 #[.int .i64 (atV (valAt t0 t1)).kind, .int .i64 (atV (valAt t0 t1)).n, .string (atV (valAt t0 t1)).s, .slice GR1 (atV (valAt t0 t1)).kids.length gr1]) := bg12
  have at013 := Lib.hid (at012.out.keep (w' := (w8).drew) (S' := Lt (w8).drew.heap.size) fun b hb => ⟨hb, rfl⟩)
  have at113 := Lib.hid (at112.out.keep (w' := (w8).drew) (S' := Lt (w8).drew.heap.size) fun b hb => ⟨hb, rfl⟩)
  have OW13 := Lib.hid (OW12.out.keep (S' := Btw ((w3).heap.size) (w4.heap.size)) (w' := (w8).drew) fun b hb => ⟨hb, rfl⟩)
  have LW13 := Lib.hid (show w4.heap.size ≤ ((w8).drew).heap.size from Nat.le_trans LW12.out (Nat.le_refl _))
  have Ox013 := Lib.hid (Ox012.out.keep (S' := Btw ((w4.alloc (.cells #[.int .i64 (atV (valAt t0 t1)).kind, .int .i64 (atV (valAt t0 t1)).n, .string (atV (valAt t0 t1)).s, .slice DOR1 (atV (valAt t0 t1)).kids.length dor1] 29)).heap.size) (w5.heap.size)) (w' := (w8).drew) fun b hb => ⟨hb, rfl⟩)
  have Lx013 := Lib.hid (show w5.heap.size ≤ ((w8).drew).heap.size from Nat.le_trans Lx012.out (Nat.le_refl _))
  have Ox113 := Lib.hid (Ox112.out.keep (S' := Btw ((w5.alloc (.cells #[.int .i64 t0.kind, .int .i64 t0.n, .string t0.s, .slice X01 t0.kids.length x01] 29)).heap.size) (w6.heap.size)) (w' := (w8).drew) fun b hb => ⟨hb, rfl⟩)
  have Lx113 := Lib.hid (show w6.heap.size ≤ ((w8).drew).heap.size from Nat.le_trans Lx112.out (Nat.le_refl _))
  have OG13 := Lib.hid (OG12.out.keep (S' := Btw ((w6).heap.size) (w7.heap.size)) (w' := (w8).drew) fun b hb => ⟨hb, rfl⟩)
  have LG13 := Lib.hid (show w7.heap.size ≤ ((w8).drew).heap.size from Nat.le_trans LG12.out (Nat.le_refl _))
  have hcba013 := fun i => ba013.out.cell i
  have hcbw13 := fun i => bw13.out.cell i
  have hcbx013 := fun i => bx013.out.cell i
  have hcbg13 := fun i => bg13.out.cell i
  go_region_held3 (fun w' => (∀ i, w'.cell? ⟨w.heap.size, i, none⟩ = (#[.int .i64 t0.kind, .int .i64 t0.n, .string t0.s, .slice A01 t0.kids.length c01] : Array Value)[i]?) ∧ (∀ i, w'.cell? ⟨w4.heap.size, i, none⟩ = (#[.int .i64 (atV (valAt t0 t1)).kind, .int .i64 (atV (valAt t0 t1)).n, .string (atV (valAt t0 t1)).s, .slice DOR1 (atV (valAt t0 t1)).kids.length dor1] : Array Value)[i]?) ∧ (∀ i, w'.cell? ⟨w5.heap.size, i, none⟩ = (#[.int .i64 t0.kind, .int .i64 t0.n, .string t0.s, .slice X01 t0.kids.length x01] : Array Value)[i]?) ∧ (∀ i, w'.cell? ⟨w7.heap.size, i, none⟩ = (#[.int .i64 (atV (valAt t0 t1)).kind, .int .i64 (atV (valAt t0 t1)).n, .string (atV (valAt t0 t1)).s, .slice GR1 (atV (valAt t0 t1)).kids.length gr1] : Array Value)[i]?)) (first | exact ⟨hcba013, hcbw13, hcbx013, hcbg13⟩ | exact ⟨hcba014, hcbw14, hcbx014, hcbg14⟩ | exact ⟨hcba015, hcbw15, hcbx015, hcbg15⟩) (first
    | (go_at_call 17
       refine (toValue' t0 A01 c01 _ hm0 at013.out).mono ?_
       rintro e w9 ⟨Y01, y01, rfl, owy0, hb9⟩
       have B14 := B13.trans (hb9.mono B13.size)
       have OW14 := Lib.hid (OW13.out.keep (S' := Btw ((w3).heap.size) (w4.heap.size)) (w' := w9) fun b hb => ⟨hb, hb9.block b (Nat.lt_of_lt_of_le hb.2 LW13.out)⟩)
       have LW14 := Lib.hid (show w4.heap.size ≤ (w9).heap.size from Nat.le_trans LW13.out hb9.size)
       have Ox014 := Lib.hid (Ox013.out.keep (S' := Btw ((w4.alloc (.cells #[.int .i64 (atV (valAt t0 t1)).kind, .int .i64 (atV (valAt t0 t1)).n, .string (atV (valAt t0 t1)).s, .slice DOR1 (atV (valAt t0 t1)).kids.length dor1] 29)).heap.size) (w5.heap.size)) (w' := w9) fun b hb => ⟨hb, hb9.block b (Nat.lt_of_lt_of_le hb.2 Lx013.out)⟩)
       have Lx014 := Lib.hid (show w5.heap.size ≤ (w9).heap.size from Nat.le_trans Lx013.out hb9.size)
       have Ox114 := Lib.hid (Ox113.out.keep (S' := Btw ((w5.alloc (.cells #[.int .i64 t0.kind, .int .i64 t0.n, .string t0.s, .slice X01 t0.kids.length x01] 29)).heap.size) (w6.heap.size)) (w' := w9) fun b hb => ⟨hb, hb9.block b (Nat.lt_of_lt_of_le hb.2 Lx113.out)⟩)
       have Lx114 := Lib.hid (show w6.heap.size ≤ (w9).heap.size from Nat.le_trans Lx113.out hb9.size)
       have OG14 := Lib.hid (OG13.out.keep (S' := Btw ((w6).heap.size) (w7.heap.size)) (w' := w9) fun b hb => ⟨hb, hb9.block b (Nat.lt_of_lt_of_le hb.2 LG13.out)⟩)
       have LG14 := Lib.hid (show w7.heap.size ≤ (w9).heap.size from Nat.le_trans LG13.out hb9.size)
       have ba014 := Lib.hid (ba013.out.below hb9 ba013.out.lt)
       have bw14 := Lib.hid (bw13.out.below hb9 bw13.out.lt)
       have bx014 := Lib.hid (bx013.out.below hb9 bx013.out.lt)
       have bg14 := Lib.hid (bg13.out.below hb9 bg13.out.lt)
       have at014 := Lib.hid (at013.out.below hb9 hb9.size)
       have at114 := Lib.hid (at113.out.below hb9 hb9.size)
       have yf014 := Lib.hid (owy0.at.keep fun b hb => ⟨hb.2, rfl⟩)
       have hcba014 := fun i => ba014.out.cell i
       have hcbw14 := fun i => bw14.out.cell i
       have hcbx014 := fun i => bx014.out.cell i
       have hcbg14 := fun i => bg14.out.cell i)
    | (go_at_call 20
       refine (eqValue' t0 X01 x01 Y01 y01 _ (Ox014.out.at.keep fun b hb => ⟨Nat.lt_of_lt_of_le hb.2 Lx014.out, rfl⟩) yf014.out).mono ?_
       rintro e w10 ⟨rfl, hb10⟩
       have B15 := B14.trans (hb10.mono B14.size)
       have OW15 := Lib.hid (OW14.out.keep (S' := Btw ((w3).heap.size) (w4.heap.size)) (w' := w10) fun b hb => ⟨hb, hb10.block b (Nat.lt_of_lt_of_le hb.2 LW14.out)⟩)
       have LW15 := Lib.hid (show w4.heap.size ≤ (w10).heap.size from Nat.le_trans LW14.out hb10.size)
       have Ox015 := Lib.hid (Ox014.out.keep (S' := Btw ((w4.alloc (.cells #[.int .i64 (atV (valAt t0 t1)).kind, .int .i64 (atV (valAt t0 t1)).n, .string (atV (valAt t0 t1)).s, .slice DOR1 (atV (valAt t0 t1)).kids.length dor1] 29)).heap.size) (w5.heap.size)) (w' := w10) fun b hb => ⟨hb, hb10.block b (Nat.lt_of_lt_of_le hb.2 Lx014.out)⟩)
       have Lx015 := Lib.hid (show w5.heap.size ≤ (w10).heap.size from Nat.le_trans Lx014.out hb10.size)
       have Ox115 := Lib.hid (Ox114.out.keep (S' := Btw ((w5.alloc (.cells #[.int .i64 t0.kind, .int .i64 t0.n, .string t0.s, .slice X01 t0.kids.length x01] 29)).heap.size) (w6.heap.size)) (w' := w10) fun b hb => ⟨hb, hb10.block b (Nat.lt_of_lt_of_le hb.2 Lx114.out)⟩)
       have Lx115 := Lib.hid (show w6.heap.size ≤ (w10).heap.size from Nat.le_trans Lx114.out hb10.size)
       have OG15 := Lib.hid (OG14.out.keep (S' := Btw ((w6).heap.size) (w7.heap.size)) (w' := w10) fun b hb => ⟨hb, hb10.block b (Nat.lt_of_lt_of_le hb.2 LG14.out)⟩)
       have LG15 := Lib.hid (show w7.heap.size ≤ (w10).heap.size from Nat.le_trans LG14.out hb10.size)
       have ba015 := Lib.hid (ba014.out.below hb10 ba014.out.lt)
       have bw15 := Lib.hid (bw14.out.below hb10 bw14.out.lt)
       have bx015 := Lib.hid (bx014.out.below hb10 bx014.out.lt)
       have bg15 := Lib.hid (bg14.out.below hb10 bg14.out.lt)
       have at015 := Lib.hid (at014.out.below hb10 hb10.size)
       have at115 := Lib.hid (at114.out.below hb10 hb10.size)
       have yf015 := Lib.hid (yf014.out.below hb10 hb10.size)
       have hcba015 := fun i => ba015.out.cell i
       have hcbw15 := fun i => bw15.out.cell i
       have hcbx015 := fun i => bx015.out.cell i
       have hcbg15 := fun i => bg15.out.cell i))
  go_wp2_with fail
  refine (toIntS t1 A1 c1 _ at115.out hm1).mono ?_
  rintro e w11 ⟨Y11, y11, rfl, owy1, hb11⟩
  have B16 := B15.trans (hb11.mono B15.size)
  have OW16 := Lib.hid (OW15.out.keep (S' := Btw ((w3).heap.size) (w4.heap.size)) (w' := w11) fun b hb => ⟨hb, hb11.block b (Nat.lt_of_lt_of_le hb.2 LW15.out)⟩)
  have LW16 := Lib.hid (show w4.heap.size ≤ (w11).heap.size from Nat.le_trans LW15.out hb11.size)
  have Ox016 := Lib.hid (Ox015.out.keep (S' := Btw ((w4.alloc (.cells #[.int .i64 (atV (valAt t0 t1)).kind, .int .i64 (atV (valAt t0 t1)).n, .string (atV (valAt t0 t1)).s, .slice DOR1 (atV (valAt t0 t1)).kids.length dor1] 29)).heap.size) (w5.heap.size)) (w' := w11) fun b hb => ⟨hb, hb11.block b (Nat.lt_of_lt_of_le hb.2 Lx015.out)⟩)
  have Lx016 := Lib.hid (show w5.heap.size ≤ (w11).heap.size from Nat.le_trans Lx015.out hb11.size)
  have Ox116 := Lib.hid (Ox115.out.keep (S' := Btw ((w5.alloc (.cells #[.int .i64 t0.kind, .int .i64 t0.n, .string t0.s, .slice X01 t0.kids.length x01] 29)).heap.size) (w6.heap.size)) (w' := w11) fun b hb => ⟨hb, hb11.block b (Nat.lt_of_lt_of_le hb.2 Lx115.out)⟩)
  have Lx116 := Lib.hid (show w6.heap.size ≤ (w11).heap.size from Nat.le_trans Lx115.out hb11.size)
  have OG16 := Lib.hid (OG15.out.keep (S' := Btw ((w6).heap.size) (w7.heap.size)) (w' := w11) fun b hb => ⟨hb, hb11.block b (Nat.lt_of_lt_of_le hb.2 LG15.out)⟩)
  have LG16 := Lib.hid (show w7.heap.size ≤ (w11).heap.size from Nat.le_trans LG15.out hb11.size)
  have ba016 := Lib.hid (ba015.out.below hb11 ba015.out.lt)
  have bw16 := Lib.hid (bw15.out.below hb11 bw15.out.lt)
  have bx016 := Lib.hid (bx015.out.below hb11 bx015.out.lt)
  have bg16 := Lib.hid (bg15.out.below hb11 bg15.out.lt)
  have at016 := Lib.hid (at015.out.below hb11 hb11.size)
  have at116 := Lib.hid (at115.out.below hb11 hb11.size)
  have yf116 := Lib.hid (owy1.slLt)
  have hcba016 := fun i => ba016.out.cell i
  have hcbw16 := fun i => bw16.out.cell i
  have hcbx016 := fun i => bx016.out.cell i
  have hcbg16 := fun i => bg16.out.cell i
  go_wp2_with fail
  refine (eqIntS' t1 X11 Y11 x11 y11 _ (Ox116.out.sl.keep fun b hb => ⟨Nat.lt_of_lt_of_le hb.2 Lx116.out, rfl⟩) yf116.out).mono ?_
  rintro e w12 ⟨rfl, hb12⟩
  have B17 := B16.trans (hb12.mono B16.size)
  have OW17 := Lib.hid (OW16.out.keep (S' := Btw ((w3).heap.size) (w4.heap.size)) (w' := w12) fun b hb => ⟨hb, hb12.block b (Nat.lt_of_lt_of_le hb.2 LW16.out)⟩)
  have LW17 := Lib.hid (show w4.heap.size ≤ (w12).heap.size from Nat.le_trans LW16.out hb12.size)
  have Ox017 := Lib.hid (Ox016.out.keep (S' := Btw ((w4.alloc (.cells #[.int .i64 (atV (valAt t0 t1)).kind, .int .i64 (atV (valAt t0 t1)).n, .string (atV (valAt t0 t1)).s, .slice DOR1 (atV (valAt t0 t1)).kids.length dor1] 29)).heap.size) (w5.heap.size)) (w' := w12) fun b hb => ⟨hb, hb12.block b (Nat.lt_of_lt_of_le hb.2 Lx016.out)⟩)
  have Lx017 := Lib.hid (show w5.heap.size ≤ (w12).heap.size from Nat.le_trans Lx016.out hb12.size)
  have Ox117 := Lib.hid (Ox116.out.keep (S' := Btw ((w5.alloc (.cells #[.int .i64 t0.kind, .int .i64 t0.n, .string t0.s, .slice X01 t0.kids.length x01] 29)).heap.size) (w6.heap.size)) (w' := w12) fun b hb => ⟨hb, hb12.block b (Nat.lt_of_lt_of_le hb.2 Lx116.out)⟩)
  have Lx117 := Lib.hid (show w6.heap.size ≤ (w12).heap.size from Nat.le_trans Lx116.out hb12.size)
  have OG17 := Lib.hid (OG16.out.keep (S' := Btw ((w6).heap.size) (w7.heap.size)) (w' := w12) fun b hb => ⟨hb, hb12.block b (Nat.lt_of_lt_of_le hb.2 LG16.out)⟩)
  have LG17 := Lib.hid (show w7.heap.size ≤ (w12).heap.size from Nat.le_trans LG16.out hb12.size)
  have ba017 := Lib.hid (ba016.out.below hb12 ba016.out.lt)
  have bw17 := Lib.hid (bw16.out.below hb12 bw16.out.lt)
  have bx017 := Lib.hid (bx016.out.below hb12 bx016.out.lt)
  have bg17 := Lib.hid (bg16.out.below hb12 bg16.out.lt)
  have at017 := Lib.hid (at016.out.below hb12 hb12.size)
  have at117 := Lib.hid (at116.out.below hb12 hb12.size)
  have yf117 := Lib.hid (yf116.out.below hb12 hb12.size)
  have hcba017 := fun i => ba017.out.cell i
  have hcbw17 := fun i => bw17.out.cell i
  have hcbx017 := fun i => bx017.out.cell i
  have hcbg17 := fun i => bg17.out.cell i
  obtain ⟨k0, hk0e⟩ : ∃ k0 : Nat, k0 = 1 := ⟨_, rfl⟩
  have hcn0 : t0.cnt0 ≤ 33554432 := by have := t0.cnt0_le; have := t0.cnt_bulk; omega
  have hcn1 : cntL cnI t1 ≤ 33554432 := by rw [cntL_int]; omega
  go_wp2_with fail
  refine (markValue0 t0 X01 x01 k0 _ (Btw ((w4.alloc (.cells #[.int .i64 (atV (valAt t0 t1)).kind, .int .i64 (atV (valAt t0 t1)).n, .string (atV (valAt t0 t1)).s, .slice DOR1 (atV (valAt t0 t1)).kids.length dor1] 29)).heap.size) (w5.heap.size)) _ (by omega) (by omega) (by omega) (fun b hb => Nat.lt_of_lt_of_le hb.2 Lx017.out) Ox017.out).mono ?_
  rintro e w13 ⟨rfl, ho13, ht13⟩
  have B18 : Below w.heap.size w w13 := B17.trans (ht13.below (fun b hb => Nat.le_trans Wx0.out hb.1) B17.size)
  have OW18 := Lib.hid (OW17.out.keep (S' := Btw ((w3).heap.size) (w4.heap.size)) (w' := w13) fun b hb => ⟨hb, ht13.block b (Nat.lt_of_lt_of_le hb.2 LW17.out) (fun e => Nat.lt_irrefl _ (Nat.lt_of_lt_of_le hb.2 (Nat.le_trans ZW_x0.out e.1)))⟩)
  have LW18 := Lib.hid (show w4.heap.size ≤ (w13).heap.size from Nat.le_trans LW17.out ht13.size)
  have Ox118 := Lib.hid (Ox117.out.keep (S' := Btw ((w5.alloc (.cells #[.int .i64 t0.kind, .int .i64 t0.n, .string t0.s, .slice X01 t0.kids.length x01] 29)).heap.size) (w6.heap.size)) (w' := w13) fun b hb => ⟨hb, ht13.block b (Nat.lt_of_lt_of_le hb.2 Lx117.out) (fun e => Nat.lt_irrefl _ (Nat.lt_of_lt_of_le e.2 (Nat.le_trans Zx0_x1.out hb.1)))⟩)
  have Lx118 := Lib.hid (show w6.heap.size ≤ (w13).heap.size from Nat.le_trans Lx117.out ht13.size)
  have OG18 := Lib.hid (OG17.out.keep (S' := Btw ((w6).heap.size) (w7.heap.size)) (w' := w13) fun b hb => ⟨hb, ht13.block b (Nat.lt_of_lt_of_le hb.2 LG17.out) (fun e => Nat.lt_irrefl _ (Nat.lt_of_lt_of_le e.2 (Nat.le_trans Zx0_G.out hb.1)))⟩)
  have LG18 := Lib.hid (show w7.heap.size ≤ (w13).heap.size from Nat.le_trans LG17.out ht13.size)
  have ba018 : Hid (Row w13 (w.heap.size) 24 #[.int .i64 t0.kind, .int .i64 t0.n, .string t0.s, .slice A01 t0.kids.length c01]) := Lib.hid ((ht13.block (w.heap.size) ba017.out.lt (fun e => Nat.lt_irrefl _ (Nat.lt_of_lt_of_le Xba0_x0.out e.1))).trans ba017.out)
  have bw18 : Hid (Row w13 (w4.heap.size) 29 #[.int .i64 (atV (valAt t0 t1)).kind, .int .i64 (atV (valAt t0 t1)).n, .string (atV (valAt t0 t1)).s, .slice DOR1 (atV (valAt t0 t1)).kids.length dor1]) := Lib.hid ((ht13.block (w4.heap.size) bw17.out.lt (fun e => Nat.lt_irrefl _ (Nat.lt_of_lt_of_le Xbw_x0.out e.1))).trans bw17.out)
  have bx018 : Hid (Row w13 (w5.heap.size) 29 #[.int .i64 t0.kind, .int .i64 t0.n, .string t0.s, .slice X01 t0.kids.length x01]) := Lib.hid ((ht13.block (w5.heap.size) bx017.out.lt (fun e => Nat.lt_irrefl _ (Nat.lt_of_lt_of_le e.2 Yx0_bx0.out))).trans bx017.out)
  have bg18 : Hid (Row w13 (w7.heap.size) 29 #[.int .i64 (atV (valAt t0 t1)).kind, .int .i64 (atV (valAt t0 t1)).n, .string (atV (valAt t0 t1)).s, .slice GR1 (atV (valAt t0 t1)).kids.length gr1]) := Lib.hid ((ht13.block (w7.heap.size) bg17.out.lt (fun e => Nat.lt_irrefl _ (Nat.lt_of_lt_of_le e.2 Yx0_bg.out))).trans bg17.out)
  have at018 := Lib.hid (at00.out.below B18 B18.size)
  have at118 := Lib.hid (at10.out.below B18 B18.size)
  have hcba018 := fun i => ba018.out.cell i
  have hcbw18 := fun i => bw18.out.cell i
  have hcbx018 := fun i => bx018.out.cell i
  have hcbg18 := fun i => bg18.out.cell i
  obtain ⟨k1, hk1e⟩ : ∃ k1 : Nat, k1 = k0 + t0.cnt0 := ⟨_, rfl⟩
  rw [← hk1e]
  go_wp2_with fail
  refine (markIntSI t1 X11 x11 k1 _ (Btw ((w5.alloc (.cells #[.int .i64 t0.kind, .int .i64 t0.n, .string t0.s, .slice X01 t0.kids.length x01] 29)).heap.size) (w6.heap.size)) _ (by omega) (by omega) Ox118.out).mono ?_
  rintro e w14 ⟨rfl, ho14, ht14⟩
  have B19 : Below w.heap.size w w14 := B18.trans (ht14.below (fun b hb => Nat.le_trans Wx1.out hb.1) B18.size)
  have OW19 := Lib.hid (OW18.out.keep (S' := Btw ((w3).heap.size) (w4.heap.size)) (w' := w14) fun b hb => ⟨hb, ht14.block b (Nat.lt_of_lt_of_le hb.2 LW18.out) (fun e => Nat.lt_irrefl _ (Nat.lt_of_lt_of_le hb.2 (Nat.le_trans ZW_x1.out e.1)))⟩)
  have LW19 := Lib.hid (show w4.heap.size ≤ (w14).heap.size from Nat.le_trans LW18.out ht14.size)
  have OG19 := Lib.hid (OG18.out.keep (S' := Btw ((w6).heap.size) (w7.heap.size)) (w' := w14) fun b hb => ⟨hb, ht14.block b (Nat.lt_of_lt_of_le hb.2 LG18.out) (fun e => Nat.lt_irrefl _ (Nat.lt_of_lt_of_le e.2 (Nat.le_trans Zx1_G.out hb.1)))⟩)
  have LG19 := Lib.hid (show w7.heap.size ≤ (w14).heap.size from Nat.le_trans LG18.out ht14.size)
  have ba019 : Hid (Row w14 (w.heap.size) 24 #[.int .i64 t0.kind, .int .i64 t0.n, .string t0.s, .slice A01 t0.kids.length c01]) := Lib.hid ((ht14.block (w.heap.size) ba018.out.lt (fun e => Nat.lt_irrefl _ (Nat.lt_of_lt_of_le Xba0_x1.out e.1))).trans ba018.out)
  have bw19 : Hid (Row w14 (w4.heap.size) 29 #[.int .i64 (atV (valAt t0 t1)).kind, .int .i64 (atV (valAt t0 t1)).n, .string (atV (valAt t0 t1)).s, .slice DOR1 (atV (valAt t0 t1)).kids.length dor1]) := Lib.hid ((ht14.block (w4.heap.size) bw18.out.lt (fun e => Nat.lt_irrefl _ (Nat.lt_of_lt_of_le Xbw_x1.out e.1))).trans bw18.out)
  have bx019 : Hid (Row w14 (w5.heap.size) 29 #[.int .i64 t0.kind, .int .i64 t0.n, .string t0.s, .slice X01 t0.kids.length x01]) := Lib.hid ((ht14.block (w5.heap.size) bx018.out.lt (fun e => Nat.lt_irrefl _ (Nat.lt_of_lt_of_le Xbx0_x1.out e.1))).trans bx018.out)
  have bg19 : Hid (Row w14 (w7.heap.size) 29 #[.int .i64 (atV (valAt t0 t1)).kind, .int .i64 (atV (valAt t0 t1)).n, .string (atV (valAt t0 t1)).s, .slice GR1 (atV (valAt t0 t1)).kids.length gr1]) := Lib.hid ((ht14.block (w7.heap.size) bg18.out.lt (fun e => Nat.lt_irrefl _ (Nat.lt_of_lt_of_le e.2 Yx1_bg.out))).trans bg18.out)
  have at019 := Lib.hid (at00.out.below B19 B19.size)
  have at119 := Lib.hid (at10.out.below B19 B19.size)
  have hcba019 := fun i => ba019.out.cell i
  have hcbw19 := fun i => bw19.out.cell i
  have hcbx019 := fun i => bx019.out.cell i
  have hcbg19 := fun i => bg19.out.cell i
  obtain ⟨k2, hk2e⟩ : ∃ k2 : Nat, k2 = k1 + cntL cnI t1 := ⟨_, rfl⟩
  rw [← hk2e]
  go_wp2_with fail
  refine (eqValue' (atV (valAt t0 t1)) GR1 gr1 DOR1 dor1 _ (OG19.out.at.keep fun b hb => ⟨Nat.lt_of_lt_of_le hb.2 LG19.out, rfl⟩) (OW19.out.at.keep fun b hb => ⟨Nat.lt_of_lt_of_le hb.2 LW19.out, rfl⟩)).mono ?_
  rintro e w15 ⟨rfl, hb15⟩
  have B20 := B19.trans (hb15.mono B19.size)
  have OW20 := Lib.hid (OW19.out.keep (S' := Btw ((w3).heap.size) (w4.heap.size)) (w' := w15) fun b hb => ⟨hb, hb15.block b (Nat.lt_of_lt_of_le hb.2 LW19.out)⟩)
  have LW20 := Lib.hid (show w4.heap.size ≤ (w15).heap.size from Nat.le_trans LW19.out hb15.size)
  have OG20 := Lib.hid (OG19.out.keep (S' := Btw ((w6).heap.size) (w7.heap.size)) (w' := w15) fun b hb => ⟨hb, hb15.block b (Nat.lt_of_lt_of_le hb.2 LG19.out)⟩)
  have LG20 := Lib.hid (show w7.heap.size ≤ (w15).heap.size from Nat.le_trans LG19.out hb15.size)
  have ba020 := Lib.hid (ba019.out.below hb15 ba019.out.lt)
  have bw20 := Lib.hid (bw19.out.below hb15 bw19.out.lt)
  have bx020 := Lib.hid (bx019.out.below hb15 bx019.out.lt)
  have bg20 := Lib.hid (bg19.out.below hb15 bg19.out.lt)
  have at020 := Lib.hid (at019.out.below hb15 hb15.size)
  have at120 := Lib.hid (at119.out.below hb15 hb15.size)
  have hcba020 := fun i => ba020.out.cell i
  have hcbw20 := fun i => bw20.out.cell i
  have hcbx020 := fun i => bx020.out.cell i
  have hcbg20 := fun i => bg20.out.cell i
  have hcr : (atV (valAt t0 t1)).cnt0 ≤ 2305843009213693952 := by have := (atV (valAt t0 t1)).cnt0_le; have := (atV (valAt t0 t1)).cnt_bulk; have := atV_bulk t0 t1; omega
  go_wp2_with fail
  refine (markValue0 (atV (valAt t0 t1)) GR1 gr1 k0 _ (Btw ((w6).heap.size) (w7.heap.size)) _ (by omega) (by omega) (by omega) (fun b hb => Nat.lt_of_lt_of_le hb.2 LG20.out) OG20.out).mono ?_
  rintro e w16 ⟨rfl, ho16, ht16⟩
  have B21 : Below w.heap.size w w16 := B20.trans (ht16.below (fun b hb => Nat.le_trans WG.out hb.1) B20.size)
  have OW21 := Lib.hid (OW20.out.keep (S' := Btw ((w3).heap.size) (w4.heap.size)) (w' := w16) fun b hb => ⟨hb, ht16.block b (Nat.lt_of_lt_of_le hb.2 LW20.out) (fun e => Nat.lt_irrefl _ (Nat.lt_of_lt_of_le hb.2 (Nat.le_trans ZW_G.out e.1)))⟩)
  have LW21 := Lib.hid (show w4.heap.size ≤ (w16).heap.size from Nat.le_trans LW20.out ht16.size)
  have ba021 : Hid (Row w16 (w.heap.size) 24 #[.int .i64 t0.kind, .int .i64 t0.n, .string t0.s, .slice A01 t0.kids.length c01]) := Lib.hid ((ht16.block (w.heap.size) ba020.out.lt (fun e => Nat.lt_irrefl _ (Nat.lt_of_lt_of_le Xba0_G.out e.1))).trans ba020.out)
  have bw21 : Hid (Row w16 (w4.heap.size) 29 #[.int .i64 (atV (valAt t0 t1)).kind, .int .i64 (atV (valAt t0 t1)).n, .string (atV (valAt t0 t1)).s, .slice DOR1 (atV (valAt t0 t1)).kids.length dor1]) := Lib.hid ((ht16.block (w4.heap.size) bw20.out.lt (fun e => Nat.lt_irrefl _ (Nat.lt_of_lt_of_le Xbw_G.out e.1))).trans bw20.out)
  have bx021 : Hid (Row w16 (w5.heap.size) 29 #[.int .i64 t0.kind, .int .i64 t0.n, .string t0.s, .slice X01 t0.kids.length x01]) := Lib.hid ((ht16.block (w5.heap.size) bx020.out.lt (fun e => Nat.lt_irrefl _ (Nat.lt_of_lt_of_le Xbx0_G.out e.1))).trans bx020.out)
  have bg21 : Hid (Row w16 (w7.heap.size) 29 #[.int .i64 (atV (valAt t0 t1)).kind, .int .i64 (atV (valAt t0 t1)).n, .string (atV (valAt t0 t1)).s, .slice GR1 (atV (valAt t0 t1)).kids.length gr1]) := Lib.hid ((ht16.block (w7.heap.size) bg20.out.lt (fun e => Nat.lt_irrefl _ (Nat.lt_of_lt_of_le e.2 YG_bg.out))).trans bg20.out)
  have at021 := Lib.hid (at00.out.below B21 B21.size)
  have at121 := Lib.hid (at10.out.below B21 B21.size)
  have OG21 := Lib.hid ho16
  have LG21 := Lib.hid (show w7.heap.size ≤ (w16).heap.size from Nat.le_trans LG20.out ht16.size)
  have hcba021 := fun i => ba021.out.cell i
  have hcbw21 := fun i => bw21.out.cell i
  have hcbx021 := fun i => bx021.out.cell i
  have hcbg21 := fun i => bg21.out.cell i
  obtain ⟨km, hkm⟩ : ∃ km : Nat, km = k0 + (atV (valAt t0 t1)).cnt0 := ⟨_, rfl⟩
  rw [← hkm]
  go_wp2_with fail
  refine (heldValue0 (atV (valAt t0 t1)) GR1 gr1 k0 _ _ (by omega) (by omega) (by omega) (OG21.out.at.keep fun b hb => ⟨Nat.lt_of_lt_of_le hb.2 LG21.out, rfl⟩)).mono ?_
  rintro e w17 ⟨rfl, hb17⟩
  have B22 := B21.trans (hb17.mono B21.size)
  have OW22 := Lib.hid (OW21.out.keep (S' := Btw ((w3).heap.size) (w4.heap.size)) (w' := w17) fun b hb => ⟨hb, hb17.block b (Nat.lt_of_lt_of_le hb.2 LW21.out)⟩)
  have LW22 := Lib.hid (show w4.heap.size ≤ (w17).heap.size from Nat.le_trans LW21.out hb17.size)
  have OG22 := Lib.hid (OG21.out.keep (S' := Btw ((w6).heap.size) (w7.heap.size)) (w' := w17) fun b hb => ⟨hb, hb17.block b (Nat.lt_of_lt_of_le hb.2 LG21.out)⟩)
  have LG22 := Lib.hid (show w7.heap.size ≤ (w17).heap.size from Nat.le_trans LG21.out hb17.size)
  have ba022 := Lib.hid (ba021.out.below hb17 ba021.out.lt)
  have bw22 := Lib.hid (bw21.out.below hb17 bw21.out.lt)
  have bx022 := Lib.hid (bx021.out.below hb17 bx021.out.lt)
  have bg22 := Lib.hid (bg21.out.below hb17 bg21.out.lt)
  have at022 := Lib.hid (at021.out.below hb17 hb17.size)
  have at122 := Lib.hid (at121.out.below hb17 hb17.size)
  have hcba022 := fun i => ba022.out.cell i
  have hcbw22 := fun i => bw22.out.cell i
  have hcbx022 := fun i => bx022.out.cell i
  have hcbg22 := fun i => bg22.out.cell i
  rw [← hkm]
  go_wp2_with fail
  refine (toValue' t0 A01 c01 _ hm0 at022.out).mono ?_
  rintro e w18 ⟨Z01, z01, rfl, owz0, hb18⟩
  have B23 := B22.trans (hb18.mono B22.size)
  have OW23 := Lib.hid (OW22.out.keep (S' := Btw ((w3).heap.size) (w4.heap.size)) (w' := w18) fun b hb => ⟨hb, hb18.block b (Nat.lt_of_lt_of_le hb.2 LW22.out)⟩)
  have LW23 := Lib.hid (show w4.heap.size ≤ (w18).heap.size from Nat.le_trans LW22.out hb18.size)
  have OG23 := Lib.hid (OG22.out.keep (S' := Btw ((w6).heap.size) (w7.heap.size)) (w' := w18) fun b hb => ⟨hb, hb18.block b (Nat.lt_of_lt_of_le hb.2 LG22.out)⟩)
  have LG23 := Lib.hid (show w7.heap.size ≤ (w18).heap.size from Nat.le_trans LG22.out hb18.size)
  have ba023 := Lib.hid (ba022.out.below hb18 ba022.out.lt)
  have bw23 := Lib.hid (bw22.out.below hb18 bw22.out.lt)
  have bx023 := Lib.hid (bx022.out.below hb18 bx022.out.lt)
  have bg23 := Lib.hid (bg22.out.below hb18 bg22.out.lt)
  have at023 := Lib.hid (at022.out.below hb18 hb18.size)
  have at123 := Lib.hid (at122.out.below hb18 hb18.size)
  have zf023 := Lib.hid (owz0.at.keep fun b hb => ⟨hb.2, rfl⟩)
  have hcba023 := fun i => ba023.out.cell i
  have hcbw23 := fun i => bw23.out.cell i
  have hcbx023 := fun i => bx023.out.cell i
  have hcbg23 := fun i => bg23.out.cell i
  go_wp2_with fail
  refine (toIntS t1 A1 c1 _ at123.out hm1).mono ?_
  rintro e w19 ⟨Z11, z11, rfl, owz1, hb19⟩
  have B24 := B23.trans (hb19.mono B23.size)
  have OW24 := Lib.hid (OW23.out.keep (S' := Btw ((w3).heap.size) (w4.heap.size)) (w' := w19) fun b hb => ⟨hb, hb19.block b (Nat.lt_of_lt_of_le hb.2 LW23.out)⟩)
  have LW24 := Lib.hid (show w4.heap.size ≤ (w19).heap.size from Nat.le_trans LW23.out hb19.size)
  have OG24 := Lib.hid (OG23.out.keep (S' := Btw ((w6).heap.size) (w7.heap.size)) (w' := w19) fun b hb => ⟨hb, hb19.block b (Nat.lt_of_lt_of_le hb.2 LG23.out)⟩)
  have LG24 := Lib.hid (show w7.heap.size ≤ (w19).heap.size from Nat.le_trans LG23.out hb19.size)
  have ba024 := Lib.hid (ba023.out.below hb19 ba023.out.lt)
  have bw24 := Lib.hid (bw23.out.below hb19 bw23.out.lt)
  have bx024 := Lib.hid (bx023.out.below hb19 bx023.out.lt)
  have bg24 := Lib.hid (bg23.out.below hb19 bg23.out.lt)
  have at024 := Lib.hid (at023.out.below hb19 hb19.size)
  have at124 := Lib.hid (at123.out.below hb19 hb19.size)
  have zf024 := Lib.hid (zf023.out.below hb19 hb19.size)
  have zf124 := Lib.hid (owz1.slLt)
  have hcba024 := fun i => ba024.out.cell i
  have hcbw24 := fun i => bw24.out.cell i
  have hcbx024 := fun i => bx024.out.cell i
  have hcbg24 := fun i => bg24.out.cell i
  go_wp2_with fail
  refine (implAt t0 Z01 z01 t1 Z11 z11 _ hm0 zf024.out zf124.out).mono ?_
  rintro e w20 ⟨ZOR1, zor1, rfl, owzoR, hb20⟩
  have B25 := B24.trans (hb20.mono B24.size)
  have OW25 := Lib.hid (OW24.out.keep (S' := Btw ((w3).heap.size) (w4.heap.size)) (w' := w20) fun b hb => ⟨hb, hb20.block b (Nat.lt_of_lt_of_le hb.2 LW24.out)⟩)
  have LW25 := Lib.hid (show w4.heap.size ≤ (w20).heap.size from Nat.le_trans LW24.out hb20.size)
  have OG25 := Lib.hid (OG24.out.keep (S' := Btw ((w6).heap.size) (w7.heap.size)) (w' := w20) fun b hb => ⟨hb, hb20.block b (Nat.lt_of_lt_of_le hb.2 LG24.out)⟩)
  have LG25 := Lib.hid (show w7.heap.size ≤ (w20).heap.size from Nat.le_trans LG24.out hb20.size)
  have ba025 := Lib.hid (ba024.out.below hb20 ba024.out.lt)
  have bw25 := Lib.hid (bw24.out.below hb20 bw24.out.lt)
  have bx025 := Lib.hid (bx024.out.below hb20 bx024.out.lt)
  have bg25 := Lib.hid (bg24.out.below hb20 bg24.out.lt)
  have at025 := Lib.hid (at024.out.below hb20 hb20.size)
  have at125 := Lib.hid (at124.out.below hb20 hb20.size)
  have zf025 := Lib.hid (zf024.out.below hb20 hb20.size)
  have zf125 := Lib.hid (zf124.out.below hb20 hb20.size)
  have ZW_H := Lib.hid (show w4.heap.size ≤ (w19).heap.size from LW24.out)
  have ZG_H := Lib.hid (show w7.heap.size ≤ (w19).heap.size from LG24.out)
  have Xba0_H := Lib.hid (show w.heap.size < (w19).heap.size from ba024.out.lt)
  have Xbw_H := Lib.hid (show w4.heap.size < (w19).heap.size from bw24.out.lt)
  have Xbx0_H := Lib.hid (show w5.heap.size < (w19).heap.size from bx024.out.lt)
  have Xbg_H := Lib.hid (show w7.heap.size < (w19).heap.size from bg24.out.lt)
  have WH := Lib.hid (show w.heap.size ≤ (w19).heap.size from B24.size)
  have OH25 := Lib.hid (owzoR)
  have LH25 := Lib.hid (show w20.heap.size ≤ (w20).heap.size from Nat.le_refl _)
  have hcba025 := fun i => ba025.out.cell i
  have hcbw25 := fun i => bw25.out.cell i
  have hcbx025 := fun i => bx025.out.cell i
  have hcbg25 := fun i => bg25.out.cell i
  have E26 : Below (w20).heap.size (w20) (w20.alloc (.cells #[.int .i64 (atV (valAt t0 t1)).kind, .int .i64 (atV (valAt t0 t1)).n, .string (atV (valAt t0 t1)).s, .slice ZOR1 (atV (valAt t0 t1)).kids.length zor1] 29)) := (Below.refl _ _).alloc (Nat.le_refl _) _
  have B26 : Below w.heap.size w (w20.alloc (.cells #[.int .i64 (atV (valAt t0 t1)).kind, .int .i64 (atV (valAt t0 t1)).n, .string (atV (valAt t0 t1)).s, .slice ZOR1 (atV (valAt t0 t1)).kids.length zor1] 29)) := B25.alloc B25.size _
  have ba026 := Lib.hid (Row.alloc ba025.out (.cells #[.int .i64 (atV (valAt t0 t1)).kind, .int .i64 (atV (valAt t0 t1)).n, .string (atV (valAt t0 t1)).s, .slice ZOR1 (atV (valAt t0 t1)).kids.length zor1] 29))
  have bw26 := Lib.hid (Row.alloc bw25.out (.cells #[.int .i64 (atV (valAt t0 t1)).kind, .int .i64 (atV (valAt t0 t1)).n, .string (atV (valAt t0 t1)).s, .slice ZOR1 (atV (valAt t0 t1)).kids.length zor1] 29))
  have bx026 := Lib.hid (Row.alloc bx025.out (.cells #[.int .i64 (atV (valAt t0 t1)).kind, .int .i64 (atV (valAt t0 t1)).n, .string (atV (valAt t0 t1)).s, .slice ZOR1 (atV (valAt t0 t1)).kids.length zor1] 29))
  have bg26 := Lib.hid (Row.alloc bg25.out (.cells #[.int .i64 (atV (valAt t0 t1)).kind, .int .i64 (atV (valAt t0 t1)).n, .string (atV (valAt t0 t1)).s, .slice ZOR1 (atV (valAt t0 t1)).kids.length zor1] 29))
  have bh26 := Lib.hid (Row.new' (w20) 29 #[.int .i64 (atV (valAt t0 t1)).kind, .int .i64 (atV (valAt t0 t1)).n, .string (atV (valAt t0 t1)).s, .slice ZOR1 (atV (valAt t0 t1)).kids.length zor1] (g := w20.heap.size) rfl)
  have at026 := Lib.hid (at025.out.below E26 E26.size)
  have at126 := Lib.hid (at125.out.below E26 E26.size)
  have OW26 := Lib.hid (OW25.out.keep (S' := Btw ((w3).heap.size) (w4.heap.size)) (w' := w20.alloc (.cells #[.int .i64 (atV (valAt t0 t1)).kind, .int .i64 (atV (valAt t0 t1)).n, .string (atV (valAt t0 t1)).s, .slice ZOR1 (atV (valAt t0 t1)).kids.length zor1] 29)) fun b hb => ⟨hb, Below.heap_alloc _ _ _ (Nat.lt_of_lt_of_le hb.2 LW25.out)⟩)
  have LW26 := Lib.hid (show w4.heap.size ≤ (w20.alloc (.cells #[.int .i64 (atV (valAt t0 t1)).kind, .int .i64 (atV (valAt t0 t1)).n, .string (atV (valAt t0 t1)).s, .slice ZOR1 (atV (valAt t0 t1)).kids.length zor1] 29)).heap.size from Nat.le_trans LW25.out E26.size)
  have OG26 := Lib.hid (OG25.out.keep (S' := Btw ((w6).heap.size) (w7.heap.size)) (w' := w20.alloc (.cells #[.int .i64 (atV (valAt t0 t1)).kind, .int .i64 (atV (valAt t0 t1)).n, .string (atV (valAt t0 t1)).s, .slice ZOR1 (atV (valAt t0 t1)).kids.length zor1] 29)) fun b hb => ⟨hb, Below.heap_alloc _ _ _ (Nat.lt_of_lt_of_le hb.2 LG25.out)⟩)
  have LG26 := Lib.hid (show w7.heap.size ≤ (w20.alloc (.cells #[.int .i64 (atV (valAt t0 t1)).kind, .int .i64 (atV (valAt t0 t1)).n, .string (atV (valAt t0 t1)).s, .slice ZOR1 (atV (valAt t0 t1)).kids.length zor1] 29)).heap.size from Nat.le_trans LG25.out E26.size)
  have OH26 := Lib.hid (OH25.out.keep (S' := Btw ((w19).heap.size) (w20.heap.size)) (w' := w20.alloc (.cells #[.int .i64 (atV (valAt t0 t1)).kind, .int .i64 (atV (valAt t0 t1)).n, .string (atV (valAt t0 t1)).s, .slice ZOR1 (atV (valAt t0 t1)).kids.length zor1] 29)) fun b hb => ⟨hb, Below.heap_alloc _ _ _ (Nat.lt_of_lt_of_le hb.2 LH25.out)⟩)
  have LH26 := Lib.hid (show w20.heap.size ≤ (w20.alloc (.cells #[.int .i64 (atV (valAt t0 t1)).kind, .int .i64 (atV (valAt t0 t1)).n, .string (atV (valAt t0 t1)).s, .slice ZOR1 (atV (valAt t0 t1)).kids.length zor1] 29)).heap.size from Nat.le_trans LH25.out E26.size)
  have YW_bh := Lib.hid (show w4.heap.size ≤ w20.heap.size from by have := LW25.out; simpa using this)
  have YG_bh := Lib.hid (show w7.heap.size ≤ w20.heap.size from by have := LG25.out; simpa using this)
  have YH_bh := Lib.hid (show w20.heap.size ≤ w20.heap.size from by have := LH25.out; simpa using this)
  have hcba026 := fun i => ba026.out.cell i
  have hcbw26 := fun i => bw26.out.cell i
  have hcbx026 := fun i => bx026.out.cell i
  have hcbg26 := fun i => bg26.out.cell i
  have hcbh26 := fun i => bh26.out.cell i
  go_wp2_with fail
  refine (eqValue' (atV (valAt t0 t1)) ZOR1 zor1 DOR1 dor1 _ (OH26.out.at.keep fun b hb => ⟨Nat.lt_of_lt_of_le hb.2 LH26.out, rfl⟩) (OW26.out.at.keep fun b hb => ⟨Nat.lt_of_lt_of_le hb.2 LW26.out, rfl⟩)).mono ?_
  rintro e w21 ⟨rfl, hb21⟩
  have B27 := B26.trans (hb21.mono B26.size)
  have OW27 := Lib.hid (OW26.out.keep (S' := Btw ((w3).heap.size) (w4.heap.size)) (w' := w21) fun b hb => ⟨hb, hb21.block b (Nat.lt_of_lt_of_le hb.2 LW26.out)⟩)
  have LW27 := Lib.hid (show w4.heap.size ≤ (w21).heap.size from Nat.le_trans LW26.out hb21.size)
  have OG27 := Lib.hid (OG26.out.keep (S' := Btw ((w6).heap.size) (w7.heap.size)) (w' := w21) fun b hb => ⟨hb, hb21.block b (Nat.lt_of_lt_of_le hb.2 LG26.out)⟩)
  have LG27 := Lib.hid (show w7.heap.size ≤ (w21).heap.size from Nat.le_trans LG26.out hb21.size)
  have OH27 := Lib.hid (OH26.out.keep (S' := Btw ((w19).heap.size) (w20.heap.size)) (w' := w21) fun b hb => ⟨hb, hb21.block b (Nat.lt_of_lt_of_le hb.2 LH26.out)⟩)
  have LH27 := Lib.hid (show w20.heap.size ≤ (w21).heap.size from Nat.le_trans LH26.out hb21.size)
  have ba027 := Lib.hid (ba026.out.below hb21 ba026.out.lt)
  have bw27 := Lib.hid (bw26.out.below hb21 bw26.out.lt)
  have bx027 := Lib.hid (bx026.out.below hb21 bx026.out.lt)
  have bg27 := Lib.hid (bg26.out.below hb21 bg26.out.lt)
  have bh27 := Lib.hid (bh26.out.below hb21 bh26.out.lt)
  have at027 := Lib.hid (at026.out.below hb21 hb21.size)
  have at127 := Lib.hid (at126.out.below hb21 hb21.size)
  have hcba027 := fun i => ba027.out.cell i
  have hcbw27 := fun i => bw27.out.cell i
  have hcbx027 := fun i => bx027.out.cell i
  have hcbg27 := fun i => bg27.out.cell i
  have hcbh27 := fun i => bh27.out.cell i
  go_wp2_with fail
  refine (heldValue0 (atV (valAt t0 t1)) GR1 gr1 k0 _ _ (by omega) (by omega) (by omega) (OG27.out.at.keep fun b hb => ⟨Nat.lt_of_lt_of_le hb.2 LG27.out, rfl⟩)).mono ?_
  rintro e w22 ⟨rfl, hb22⟩
  have B28 := B27.trans (hb22.mono B27.size)
  have OW28 := Lib.hid (OW27.out.keep (S' := Btw ((w3).heap.size) (w4.heap.size)) (w' := w22) fun b hb => ⟨hb, hb22.block b (Nat.lt_of_lt_of_le hb.2 LW27.out)⟩)
  have LW28 := Lib.hid (show w4.heap.size ≤ (w22).heap.size from Nat.le_trans LW27.out hb22.size)
  have OG28 := Lib.hid (OG27.out.keep (S' := Btw ((w6).heap.size) (w7.heap.size)) (w' := w22) fun b hb => ⟨hb, hb22.block b (Nat.lt_of_lt_of_le hb.2 LG27.out)⟩)
  have LG28 := Lib.hid (show w7.heap.size ≤ (w22).heap.size from Nat.le_trans LG27.out hb22.size)
  have OH28 := Lib.hid (OH27.out.keep (S' := Btw ((w19).heap.size) (w20.heap.size)) (w' := w22) fun b hb => ⟨hb, hb22.block b (Nat.lt_of_lt_of_le hb.2 LH27.out)⟩)
  have LH28 := Lib.hid (show w20.heap.size ≤ (w22).heap.size from Nat.le_trans LH27.out hb22.size)
  have ba028 := Lib.hid (ba027.out.below hb22 ba027.out.lt)
  have bw28 := Lib.hid (bw27.out.below hb22 bw27.out.lt)
  have bx028 := Lib.hid (bx027.out.below hb22 bx027.out.lt)
  have bg28 := Lib.hid (bg27.out.below hb22 bg27.out.lt)
  have bh28 := Lib.hid (bh27.out.below hb22 bh27.out.lt)
  have at028 := Lib.hid (at027.out.below hb22 hb22.size)
  have at128 := Lib.hid (at127.out.below hb22 hb22.size)
  have hcba028 := fun i => ba028.out.cell i
  have hcbw28 := fun i => bw28.out.cell i
  have hcbx028 := fun i => bx028.out.cell i
  have hcbg28 := fun i => bg28.out.cell i
  have hcbh28 := fun i => bh28.out.cell i
  rw [← hkm]
  go_wp2_with fail
  go_ret
  exact ⟨rfl, B28⟩
end Go.Proofs.Ytnjindgpmacjmaa
