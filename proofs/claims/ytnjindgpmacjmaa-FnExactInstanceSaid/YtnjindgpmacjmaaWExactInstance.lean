/- The walk of the law FnExactInstance. Conditions: none. -/
import Derived.Test.YtnjindgpmacjmaaInst
import Derived.Test.YtnjindgpmacjmaaAScheme
import Derived.Test.YtnjindgpmacjmaaMScheme
import Derived.Test.YtnjindgpmacjmaaATy
import Derived.Test.YtnjindgpmacjmaaMTy
import Derived.Deep.RegionHeld3
import Derived.Deep.RegionLaw
import Derived.Deep.CutRange
namespace Go.Proofs.Ytnjindgpmacjmaa
open Go.RowKit
set_option linter.unusedVariables false
set_option linter.unusedSimpArgs false
set_option linter.unnecessarySimpa false
set_option maxHeartbeats 4000000

set_option maxRecDepth 20000 in
theorem walkExactInstance (t0 : GScheme) (A01 : Option Addr) (c01 : Nat) (A02 : Option Addr) (c02 : Nat) (t1 : List GTy) (A1 : Option Addr) (c1 : Nat) (w : World) (hat0 : GScheme.At w (Lt w.heap.size) A01 c01 A02 c02 t0) (hat1 : Sl w (Lt w.heap.size) 4 A1 c1 (t1.map GTy.toD)) :
    Calls Try.prog 12 #[.agg #[.slice A01 t0.vars.length c01, .int .i64 t0.ty.op, .int .i64 t0.ty.n, .string t0.ty.s, .slice A02 t0.ty.kids.length c02], .slice A1 t1.length c1] w fun e w' => e = .returned (.bool true) ∧ Below w.heap.size w w' := by
  have B0 : Below w.heap.size w w := Below.refl _ _
  have at00 := Lib.hid hat0
  have at10 := Lib.hid hat1
  clear hat0
  clear hat1
  have E1 : Below (w).heap.size (w) (w.alloc (.cells #[.slice A01 t0.vars.length c01, .int .i64 t0.ty.op, .int .i64 t0.ty.n, .string t0.ty.s, .slice A02 t0.ty.kids.length c02] 96)) := (Below.refl _ _).alloc (Nat.le_refl _) _
  have B1 : Below w.heap.size w (w.alloc (.cells #[.slice A01 t0.vars.length c01, .int .i64 t0.ty.op, .int .i64 t0.ty.n, .string t0.ty.s, .slice A02 t0.ty.kids.length c02] 96)) := B0.alloc B0.size _
  have ba01 := Lib.hid (Row.new' (w) 96 #[.slice A01 t0.vars.length c01, .int .i64 t0.ty.op, .int .i64 t0.ty.n, .string t0.ty.s, .slice A02 t0.ty.kids.length c02] (g := w.heap.size) rfl)
  have at01 := Lib.hid (at00.out.below E1 E1.size)
  have at11 := Lib.hid (at10.out.below E1 E1.size)
  go_enter Try.func12, Try.ntmps12
  go_wp2_with fail
  refine (szScheme' t0 A01 c01 A02 c02 (1048576) _ (by omega) (by omega) at01.out).mono ?_
  rintro e w1 ⟨rfl, hb1⟩
  have B2 := B1.trans (hb1.mono B1.size)
  have ba02 := Lib.hid (ba01.out.below hb1 ba01.out.lt)
  have at02 := Lib.hid (at01.out.below hb1 hb1.size)
  have at12 := Lib.hid (at11.out.below hb1 hb1.size)
  have hcba02 := fun i => ba02.out.cell i
  by_cases hk0 : ((t0.bulk : Nat) : Int) ≤ 1048576
  rotate_left
  · have hv := szv_gt (b := t0.bulk) (left := 1048576) (by omega)
    go_wp2_with fail
    go_ret
    exact ⟨rfl, B2⟩
  have hv0 := szv_le hk0
  have hge0 : 0 ≤ 1048576 - ((t0.bulk : Nat) : Int) := by omega
  have hm0 : t0.bulk ≤ 1048576 := by omega
  go_wp2_with fail
  refine (szTyS' t1 A1 c1 (1048576 - ((t0.bulk : Nat) : Int)) _ at12.out (by omega) (by omega)).mono ?_
  rintro e w2 ⟨rfl, hb2⟩
  have B3 := B2.trans (hb2.mono B2.size)
  have ba03 := Lib.hid (ba02.out.below hb2 ba02.out.lt)
  have at03 := Lib.hid (at02.out.below hb2 hb2.size)
  have at13 := Lib.hid (at12.out.below hb2 hb2.size)
  have hcba03 := fun i => ba03.out.cell i
  by_cases hk1 : ((bulkL GTy.bulk t1 : Nat) : Int) ≤ 1048576 - ((t0.bulk : Nat) : Int)
  rotate_left
  · have hv := szv_gt (b := bulkL GTy.bulk t1) (left := 1048576 - ((t0.bulk : Nat) : Int)) (by omega)
    go_wp2_with fail
    go_ret
    exact ⟨rfl, B3⟩
  have hv1 := szv_le hk1
  have hge1 : 0 ≤ 1048576 - ((t0.bulk : Nat) : Int) - ((bulkL GTy.bulk t1 : Nat) : Int) := by omega
  have hm1 : bulkL GTy.bulk t1 ≤ 1048576 := by omega
  go_wp2_with fail
  refine (toScheme' t0 A01 c01 A02 c02 _ hm0 at03.out).mono ?_
  rintro e w3 ⟨D01, d01, D02, d02, rfl, owd0, hb3⟩
  have B4 := B3.trans (hb3.mono B3.size)
  have ba04 := Lib.hid (ba03.out.below hb3 ba03.out.lt)
  have at04 := Lib.hid (at03.out.below hb3 hb3.size)
  have at14 := Lib.hid (at13.out.below hb3 hb3.size)
  have df04 := Lib.hid (owd0.at.keep fun b hb => ⟨hb.2, rfl⟩)
  have hcba04 := fun i => ba04.out.cell i
  go_wp2_with fail
  refine (toTyS' t1 A1 c1 _ at14.out hm1).mono ?_
  rintro e w4 ⟨D11, d11, rfl, owd1, hb4⟩
  have B5 := B4.trans (hb4.mono B4.size)
  have ba05 := Lib.hid (ba04.out.below hb4 ba04.out.lt)
  have at05 := Lib.hid (at04.out.below hb4 hb4.size)
  have at15 := Lib.hid (at14.out.below hb4 hb4.size)
  have df05 := Lib.hid (df04.out.below hb4 hb4.size)
  have df15 := Lib.hid (owd1.slLt)
  have hcba05 := fun i => ba05.out.cell i
  go_wp2_with fail
  refine (specInstance t0 D01 d01 D02 d02 t1 D11 d11 _ hm0 hm1 df05.out df15.out).mono ?_
  rintro e w5 ⟨DOR1, dor1, rfl, owdoR, hb5⟩
  have B6 := B5.trans (hb5.mono B5.size)
  have ba06 := Lib.hid (ba05.out.below hb5 ba05.out.lt)
  have at06 := Lib.hid (at05.out.below hb5 hb5.size)
  have at16 := Lib.hid (at15.out.below hb5 hb5.size)
  have df06 := Lib.hid (df05.out.below hb5 hb5.size)
  have df16 := Lib.hid (df15.out.below hb5 hb5.size)
  have Xba0_W := Lib.hid (show w.heap.size < (w4).heap.size from ba05.out.lt)
  have WW := Lib.hid (show w.heap.size ≤ (w4).heap.size from B5.size)
  have OW6 := Lib.hid (owdoR)
  have LW6 := Lib.hid (show w5.heap.size ≤ (w5).heap.size from Nat.le_refl _)
  have hcba06 := fun i => ba06.out.cell i
  have E7 : Below (w5).heap.size (w5) (w5.alloc (.cells #[.int .i64 (instR (instV t0 t1)).op, .int .i64 (instR (instV t0 t1)).n, .string (instR (instV t0 t1)).s, .slice DOR1 (instR (instV t0 t1)).kids.length dor1] 64)) := (Below.refl _ _).alloc (Nat.le_refl _) _
  have B7 : Below w.heap.size w (w5.alloc (.cells #[.int .i64 (instR (instV t0 t1)).op, .int .i64 (instR (instV t0 t1)).n, .string (instR (instV t0 t1)).s, .slice DOR1 (instR (instV t0 t1)).kids.length dor1] 64)) := B6.alloc B6.size _
  have ba07 := Lib.hid (Row.alloc ba06.out (.cells #[.int .i64 (instR (instV t0 t1)).op, .int .i64 (instR (instV t0 t1)).n, .string (instR (instV t0 t1)).s, .slice DOR1 (instR (instV t0 t1)).kids.length dor1] 64))
  have bw7 := Lib.hid (Row.new' (w5) 64 #[.int .i64 (instR (instV t0 t1)).op, .int .i64 (instR (instV t0 t1)).n, .string (instR (instV t0 t1)).s, .slice DOR1 (instR (instV t0 t1)).kids.length dor1] (g := w5.heap.size) rfl)
  have at07 := Lib.hid (at06.out.below E7 E7.size)
  have at17 := Lib.hid (at16.out.below E7 E7.size)
  have OW7 := Lib.hid (OW6.out.keep (S' := Btw ((w4).heap.size) (w5.heap.size)) (w' := w5.alloc (.cells #[.int .i64 (instR (instV t0 t1)).op, .int .i64 (instR (instV t0 t1)).n, .string (instR (instV t0 t1)).s, .slice DOR1 (instR (instV t0 t1)).kids.length dor1] 64)) fun b hb => ⟨hb, Below.heap_alloc _ _ _ (Nat.lt_of_lt_of_le hb.2 LW6.out)⟩)
  have LW7 := Lib.hid (show w5.heap.size ≤ (w5.alloc (.cells #[.int .i64 (instR (instV t0 t1)).op, .int .i64 (instR (instV t0 t1)).n, .string (instR (instV t0 t1)).s, .slice DOR1 (instR (instV t0 t1)).kids.length dor1] 64)).heap.size from Nat.le_trans LW6.out E7.size)
  have YW_bw := Lib.hid (show w5.heap.size ≤ w5.heap.size from by have := LW6.out; simpa using this)
  have hcba07 := fun i => ba07.out.cell i
  have hcbw7 := fun i => bw7.out.cell i
  go_wp2_with fail
  refine (toScheme' t0 A01 c01 A02 c02 _ hm0 at07.out).mono ?_
  rintro e w6 ⟨X01, x01, X02, x02, rfl, owx0, hb6⟩
  have B8 := B7.trans (hb6.mono B7.size)
  have OW8 := Lib.hid (OW7.out.keep (S' := Btw ((w4).heap.size) (w5.heap.size)) (w' := w6) fun b hb => ⟨hb, hb6.block b (Nat.lt_of_lt_of_le hb.2 LW7.out)⟩)
  have LW8 := Lib.hid (show w5.heap.size ≤ (w6).heap.size from Nat.le_trans LW7.out hb6.size)
  have ba08 := Lib.hid (ba07.out.below hb6 ba07.out.lt)
  have bw8 := Lib.hid (bw7.out.below hb6 bw7.out.lt)
  have at08 := Lib.hid (at07.out.below hb6 hb6.size)
  have at18 := Lib.hid (at17.out.below hb6 hb6.size)
  have ZW_x0 := Lib.hid (show w5.heap.size ≤ (w5.alloc (.cells #[.int .i64 (instR (instV t0 t1)).op, .int .i64 (instR (instV t0 t1)).n, .string (instR (instV t0 t1)).s, .slice DOR1 (instR (instV t0 t1)).kids.length dor1] 64)).heap.size from LW7.out)
  have Xba0_x0 := Lib.hid (show w.heap.size < (w5.alloc (.cells #[.int .i64 (instR (instV t0 t1)).op, .int .i64 (instR (instV t0 t1)).n, .string (instR (instV t0 t1)).s, .slice DOR1 (instR (instV t0 t1)).kids.length dor1] 64)).heap.size from ba07.out.lt)
  have Xbw_x0 := Lib.hid (show w5.heap.size < (w5.alloc (.cells #[.int .i64 (instR (instV t0 t1)).op, .int .i64 (instR (instV t0 t1)).n, .string (instR (instV t0 t1)).s, .slice DOR1 (instR (instV t0 t1)).kids.length dor1] 64)).heap.size from bw7.out.lt)
  have Wx0 := Lib.hid (show w.heap.size ≤ (w5.alloc (.cells #[.int .i64 (instR (instV t0 t1)).op, .int .i64 (instR (instV t0 t1)).n, .string (instR (instV t0 t1)).s, .slice DOR1 (instR (instV t0 t1)).kids.length dor1] 64)).heap.size from B7.size)
  have Ox08 := Lib.hid (owx0)
  have Lx08 := Lib.hid (show w6.heap.size ≤ (w6).heap.size from Nat.le_refl _)
  have hcba08 := fun i => ba08.out.cell i
  have hcbw8 := fun i => bw8.out.cell i
  have E9 : Below (w6).heap.size (w6) (w6.alloc (.cells #[.slice X01 t0.vars.length x01, .int .i64 t0.ty.op, .int .i64 t0.ty.n, .string t0.ty.s, .slice X02 t0.ty.kids.length x02] 102)) := (Below.refl _ _).alloc (Nat.le_refl _) _
  have B9 : Below w.heap.size w (w6.alloc (.cells #[.slice X01 t0.vars.length x01, .int .i64 t0.ty.op, .int .i64 t0.ty.n, .string t0.ty.s, .slice X02 t0.ty.kids.length x02] 102)) := B8.alloc B8.size _
  have ba09 := Lib.hid (Row.alloc ba08.out (.cells #[.slice X01 t0.vars.length x01, .int .i64 t0.ty.op, .int .i64 t0.ty.n, .string t0.ty.s, .slice X02 t0.ty.kids.length x02] 102))
  have bw9 := Lib.hid (Row.alloc bw8.out (.cells #[.slice X01 t0.vars.length x01, .int .i64 t0.ty.op, .int .i64 t0.ty.n, .string t0.ty.s, .slice X02 t0.ty.kids.length x02] 102))
  have bx09 := Lib.hid (Row.new' (w6) 102 #[.slice X01 t0.vars.length x01, .int .i64 t0.ty.op, .int .i64 t0.ty.n, .string t0.ty.s, .slice X02 t0.ty.kids.length x02] (g := w6.heap.size) rfl)
  have at09 := Lib.hid (at08.out.below E9 E9.size)
  have at19 := Lib.hid (at18.out.below E9 E9.size)
  have OW9 := Lib.hid (OW8.out.keep (S' := Btw ((w4).heap.size) (w5.heap.size)) (w' := w6.alloc (.cells #[.slice X01 t0.vars.length x01, .int .i64 t0.ty.op, .int .i64 t0.ty.n, .string t0.ty.s, .slice X02 t0.ty.kids.length x02] 102)) fun b hb => ⟨hb, Below.heap_alloc _ _ _ (Nat.lt_of_lt_of_le hb.2 LW8.out)⟩)
  have LW9 := Lib.hid (show w5.heap.size ≤ (w6.alloc (.cells #[.slice X01 t0.vars.length x01, .int .i64 t0.ty.op, .int .i64 t0.ty.n, .string t0.ty.s, .slice X02 t0.ty.kids.length x02] 102)).heap.size from Nat.le_trans LW8.out E9.size)
  have Ox09 := Lib.hid (Ox08.out.keep (S' := Btw ((w5.alloc (.cells #[.int .i64 (instR (instV t0 t1)).op, .int .i64 (instR (instV t0 t1)).n, .string (instR (instV t0 t1)).s, .slice DOR1 (instR (instV t0 t1)).kids.length dor1] 64)).heap.size) (w6.heap.size)) (w' := w6.alloc (.cells #[.slice X01 t0.vars.length x01, .int .i64 t0.ty.op, .int .i64 t0.ty.n, .string t0.ty.s, .slice X02 t0.ty.kids.length x02] 102)) fun b hb => ⟨hb, Below.heap_alloc _ _ _ (Nat.lt_of_lt_of_le hb.2 Lx08.out)⟩)
  have Lx09 := Lib.hid (show w6.heap.size ≤ (w6.alloc (.cells #[.slice X01 t0.vars.length x01, .int .i64 t0.ty.op, .int .i64 t0.ty.n, .string t0.ty.s, .slice X02 t0.ty.kids.length x02] 102)).heap.size from Nat.le_trans Lx08.out E9.size)
  have YW_bx0 := Lib.hid (show w5.heap.size ≤ w6.heap.size from by have := LW8.out; simpa using this)
  have Yx0_bx0 := Lib.hid (show w6.heap.size ≤ w6.heap.size from by have := Lx08.out; simpa using this)
  have hcba09 := fun i => ba09.out.cell i
  have hcbw9 := fun i => bw9.out.cell i
  have hcbx09 := fun i => bx09.out.cell i
  go_wp2_with fail
  refine (toTyS' t1 A1 c1 _ at19.out hm1).mono ?_
  rintro e w7 ⟨X11, x11, rfl, owx1, hb7⟩
  have B10 := B9.trans (hb7.mono B9.size)
  have OW10 := Lib.hid (OW9.out.keep (S' := Btw ((w4).heap.size) (w5.heap.size)) (w' := w7) fun b hb => ⟨hb, hb7.block b (Nat.lt_of_lt_of_le hb.2 LW9.out)⟩)
  have LW10 := Lib.hid (show w5.heap.size ≤ (w7).heap.size from Nat.le_trans LW9.out hb7.size)
  have Ox010 := Lib.hid (Ox09.out.keep (S' := Btw ((w5.alloc (.cells #[.int .i64 (instR (instV t0 t1)).op, .int .i64 (instR (instV t0 t1)).n, .string (instR (instV t0 t1)).s, .slice DOR1 (instR (instV t0 t1)).kids.length dor1] 64)).heap.size) (w6.heap.size)) (w' := w7) fun b hb => ⟨hb, hb7.block b (Nat.lt_of_lt_of_le hb.2 Lx09.out)⟩)
  have Lx010 := Lib.hid (show w6.heap.size ≤ (w7).heap.size from Nat.le_trans Lx09.out hb7.size)
  have ba010 := Lib.hid (ba09.out.below hb7 ba09.out.lt)
  have bw10 := Lib.hid (bw9.out.below hb7 bw9.out.lt)
  have bx010 := Lib.hid (bx09.out.below hb7 bx09.out.lt)
  have at010 := Lib.hid (at09.out.below hb7 hb7.size)
  have at110 := Lib.hid (at19.out.below hb7 hb7.size)
  have ZW_x1 := Lib.hid (show w5.heap.size ≤ (w6.alloc (.cells #[.slice X01 t0.vars.length x01, .int .i64 t0.ty.op, .int .i64 t0.ty.n, .string t0.ty.s, .slice X02 t0.ty.kids.length x02] 102)).heap.size from LW9.out)
  have Zx0_x1 := Lib.hid (show w6.heap.size ≤ (w6.alloc (.cells #[.slice X01 t0.vars.length x01, .int .i64 t0.ty.op, .int .i64 t0.ty.n, .string t0.ty.s, .slice X02 t0.ty.kids.length x02] 102)).heap.size from Lx09.out)
  have Xba0_x1 := Lib.hid (show w.heap.size < (w6.alloc (.cells #[.slice X01 t0.vars.length x01, .int .i64 t0.ty.op, .int .i64 t0.ty.n, .string t0.ty.s, .slice X02 t0.ty.kids.length x02] 102)).heap.size from ba09.out.lt)
  have Xbw_x1 := Lib.hid (show w5.heap.size < (w6.alloc (.cells #[.slice X01 t0.vars.length x01, .int .i64 t0.ty.op, .int .i64 t0.ty.n, .string t0.ty.s, .slice X02 t0.ty.kids.length x02] 102)).heap.size from bw9.out.lt)
  have Xbx0_x1 := Lib.hid (show w6.heap.size < (w6.alloc (.cells #[.slice X01 t0.vars.length x01, .int .i64 t0.ty.op, .int .i64 t0.ty.n, .string t0.ty.s, .slice X02 t0.ty.kids.length x02] 102)).heap.size from bx09.out.lt)
  have Wx1 := Lib.hid (show w.heap.size ≤ (w6.alloc (.cells #[.slice X01 t0.vars.length x01, .int .i64 t0.ty.op, .int .i64 t0.ty.n, .string t0.ty.s, .slice X02 t0.ty.kids.length x02] 102)).heap.size from B9.size)
  have Ox110 := Lib.hid (owx1)
  have Lx110 := Lib.hid (show w7.heap.size ≤ (w7).heap.size from Nat.le_refl _)
  have hcba010 := fun i => ba010.out.cell i
  have hcbw10 := fun i => bw10.out.cell i
  have hcbx010 := fun i => bx010.out.cell i
  go_wp2_with fail
  refine (implInstance t0 X01 x01 X02 x02 t1 X11 x11 _ hm0 hm1 (Ox010.out.at.keep fun b hb => ⟨Nat.lt_of_lt_of_le hb.2 Lx010.out, rfl⟩) (Ox110.out.sl.keep fun b hb => ⟨Nat.lt_of_lt_of_le hb.2 Lx110.out, rfl⟩)).mono ?_
  rintro e w8 ⟨GR1, gr1, rfl, owgR, hb8⟩
  have B11 := B10.trans (hb8.mono B10.size)
  have OW11 := Lib.hid (OW10.out.keep (S' := Btw ((w4).heap.size) (w5.heap.size)) (w' := w8) fun b hb => ⟨hb, hb8.block b (Nat.lt_of_lt_of_le hb.2 LW10.out)⟩)
  have LW11 := Lib.hid (show w5.heap.size ≤ (w8).heap.size from Nat.le_trans LW10.out hb8.size)
  have Ox011 := Lib.hid (Ox010.out.keep (S' := Btw ((w5.alloc (.cells #[.int .i64 (instR (instV t0 t1)).op, .int .i64 (instR (instV t0 t1)).n, .string (instR (instV t0 t1)).s, .slice DOR1 (instR (instV t0 t1)).kids.length dor1] 64)).heap.size) (w6.heap.size)) (w' := w8) fun b hb => ⟨hb, hb8.block b (Nat.lt_of_lt_of_le hb.2 Lx010.out)⟩)
  have Lx011 := Lib.hid (show w6.heap.size ≤ (w8).heap.size from Nat.le_trans Lx010.out hb8.size)
  have Ox111 := Lib.hid (Ox110.out.keep (S' := Btw ((w6.alloc (.cells #[.slice X01 t0.vars.length x01, .int .i64 t0.ty.op, .int .i64 t0.ty.n, .string t0.ty.s, .slice X02 t0.ty.kids.length x02] 102)).heap.size) (w7.heap.size)) (w' := w8) fun b hb => ⟨hb, hb8.block b (Nat.lt_of_lt_of_le hb.2 Lx110.out)⟩)
  have Lx111 := Lib.hid (show w7.heap.size ≤ (w8).heap.size from Nat.le_trans Lx110.out hb8.size)
  have ba011 := Lib.hid (ba010.out.below hb8 ba010.out.lt)
  have bw11 := Lib.hid (bw10.out.below hb8 bw10.out.lt)
  have bx011 := Lib.hid (bx010.out.below hb8 bx010.out.lt)
  have at011 := Lib.hid (at010.out.below hb8 hb8.size)
  have at111 := Lib.hid (at110.out.below hb8 hb8.size)
  have ZW_G := Lib.hid (show w5.heap.size ≤ (w7).heap.size from LW10.out)
  have Zx0_G := Lib.hid (show w6.heap.size ≤ (w7).heap.size from Lx010.out)
  have Zx1_G := Lib.hid (show w7.heap.size ≤ (w7).heap.size from Lx110.out)
  have Xba0_G := Lib.hid (show w.heap.size < (w7).heap.size from ba010.out.lt)
  have Xbw_G := Lib.hid (show w5.heap.size < (w7).heap.size from bw10.out.lt)
  have Xbx0_G := Lib.hid (show w6.heap.size < (w7).heap.size from bx010.out.lt)
  have WG := Lib.hid (show w.heap.size ≤ (w7).heap.size from B10.size)
  have OG11 := Lib.hid (owgR)
  have LG11 := Lib.hid (show w8.heap.size ≤ (w8).heap.size from Nat.le_refl _)
  have hcba011 := fun i => ba011.out.cell i
  have hcbw11 := fun i => bw11.out.cell i
  have hcbx011 := fun i => bx011.out.cell i
  have E12 : Below (w8).heap.size (w8) (w8.alloc (.cells #[.int .i64 (instR (instV t0 t1)).op, .int .i64 (instR (instV t0 t1)).n, .string (instR (instV t0 t1)).s, .slice GR1 (instR (instV t0 t1)).kids.length gr1] 64)) := (Below.refl _ _).alloc (Nat.le_refl _) _
  have B12 : Below w.heap.size w (w8.alloc (.cells #[.int .i64 (instR (instV t0 t1)).op, .int .i64 (instR (instV t0 t1)).n, .string (instR (instV t0 t1)).s, .slice GR1 (instR (instV t0 t1)).kids.length gr1] 64)) := B11.alloc B11.size _
  have ba012 := Lib.hid (Row.alloc ba011.out (.cells #[.int .i64 (instR (instV t0 t1)).op, .int .i64 (instR (instV t0 t1)).n, .string (instR (instV t0 t1)).s, .slice GR1 (instR (instV t0 t1)).kids.length gr1] 64))
  have bw12 := Lib.hid (Row.alloc bw11.out (.cells #[.int .i64 (instR (instV t0 t1)).op, .int .i64 (instR (instV t0 t1)).n, .string (instR (instV t0 t1)).s, .slice GR1 (instR (instV t0 t1)).kids.length gr1] 64))
  have bx012 := Lib.hid (Row.alloc bx011.out (.cells #[.int .i64 (instR (instV t0 t1)).op, .int .i64 (instR (instV t0 t1)).n, .string (instR (instV t0 t1)).s, .slice GR1 (instR (instV t0 t1)).kids.length gr1] 64))
  have bg12 := Lib.hid (Row.new' (w8) 64 #[.int .i64 (instR (instV t0 t1)).op, .int .i64 (instR (instV t0 t1)).n, .string (instR (instV t0 t1)).s, .slice GR1 (instR (instV t0 t1)).kids.length gr1] (g := w8.heap.size) rfl)
  have at012 := Lib.hid (at011.out.below E12 E12.size)
  have at112 := Lib.hid (at111.out.below E12 E12.size)
  have OW12 := Lib.hid (OW11.out.keep (S' := Btw ((w4).heap.size) (w5.heap.size)) (w' := w8.alloc (.cells #[.int .i64 (instR (instV t0 t1)).op, .int .i64 (instR (instV t0 t1)).n, .string (instR (instV t0 t1)).s, .slice GR1 (instR (instV t0 t1)).kids.length gr1] 64)) fun b hb => ⟨hb, Below.heap_alloc _ _ _ (Nat.lt_of_lt_of_le hb.2 LW11.out)⟩)
  have LW12 := Lib.hid (show w5.heap.size ≤ (w8.alloc (.cells #[.int .i64 (instR (instV t0 t1)).op, .int .i64 (instR (instV t0 t1)).n, .string (instR (instV t0 t1)).s, .slice GR1 (instR (instV t0 t1)).kids.length gr1] 64)).heap.size from Nat.le_trans LW11.out E12.size)
  have Ox012 := Lib.hid (Ox011.out.keep (S' := Btw ((w5.alloc (.cells #[.int .i64 (instR (instV t0 t1)).op, .int .i64 (instR (instV t0 t1)).n, .string (instR (instV t0 t1)).s, .slice DOR1 (instR (instV t0 t1)).kids.length dor1] 64)).heap.size) (w6.heap.size)) (w' := w8.alloc (.cells #[.int .i64 (instR (instV t0 t1)).op, .int .i64 (instR (instV t0 t1)).n, .string (instR (instV t0 t1)).s, .slice GR1 (instR (instV t0 t1)).kids.length gr1] 64)) fun b hb => ⟨hb, Below.heap_alloc _ _ _ (Nat.lt_of_lt_of_le hb.2 Lx011.out)⟩)
  have Lx012 := Lib.hid (show w6.heap.size ≤ (w8.alloc (.cells #[.int .i64 (instR (instV t0 t1)).op, .int .i64 (instR (instV t0 t1)).n, .string (instR (instV t0 t1)).s, .slice GR1 (instR (instV t0 t1)).kids.length gr1] 64)).heap.size from Nat.le_trans Lx011.out E12.size)
  have Ox112 := Lib.hid (Ox111.out.keep (S' := Btw ((w6.alloc (.cells #[.slice X01 t0.vars.length x01, .int .i64 t0.ty.op, .int .i64 t0.ty.n, .string t0.ty.s, .slice X02 t0.ty.kids.length x02] 102)).heap.size) (w7.heap.size)) (w' := w8.alloc (.cells #[.int .i64 (instR (instV t0 t1)).op, .int .i64 (instR (instV t0 t1)).n, .string (instR (instV t0 t1)).s, .slice GR1 (instR (instV t0 t1)).kids.length gr1] 64)) fun b hb => ⟨hb, Below.heap_alloc _ _ _ (Nat.lt_of_lt_of_le hb.2 Lx111.out)⟩)
  have Lx112 := Lib.hid (show w7.heap.size ≤ (w8.alloc (.cells #[.int .i64 (instR (instV t0 t1)).op, .int .i64 (instR (instV t0 t1)).n, .string (instR (instV t0 t1)).s, .slice GR1 (instR (instV t0 t1)).kids.length gr1] 64)).heap.size from Nat.le_trans Lx111.out E12.size)
  have OG12 := Lib.hid (OG11.out.keep (S' := Btw ((w7).heap.size) (w8.heap.size)) (w' := w8.alloc (.cells #[.int .i64 (instR (instV t0 t1)).op, .int .i64 (instR (instV t0 t1)).n, .string (instR (instV t0 t1)).s, .slice GR1 (instR (instV t0 t1)).kids.length gr1] 64)) fun b hb => ⟨hb, Below.heap_alloc _ _ _ (Nat.lt_of_lt_of_le hb.2 LG11.out)⟩)
  have LG12 := Lib.hid (show w8.heap.size ≤ (w8.alloc (.cells #[.int .i64 (instR (instV t0 t1)).op, .int .i64 (instR (instV t0 t1)).n, .string (instR (instV t0 t1)).s, .slice GR1 (instR (instV t0 t1)).kids.length gr1] 64)).heap.size from Nat.le_trans LG11.out E12.size)
  have YW_bg := Lib.hid (show w5.heap.size ≤ w8.heap.size from by have := LW11.out; simpa using this)
  have Yx0_bg := Lib.hid (show w6.heap.size ≤ w8.heap.size from by have := Lx011.out; simpa using this)
  have Yx1_bg := Lib.hid (show w7.heap.size ≤ w8.heap.size from by have := Lx111.out; simpa using this)
  have YG_bg := Lib.hid (show w8.heap.size ≤ w8.heap.size from by have := LG11.out; simpa using this)
  have hcba012 := fun i => ba012.out.cell i
  have hcbw12 := fun i => bw12.out.cell i
  have hcbx012 := fun i => bx012.out.cell i
  have hcbg12 := fun i => bg12.out.cell i
  go_wp2_with fail
  refine (eqTy' (instR (instV t0 t1)) GR1 gr1 DOR1 dor1 _ (OG12.out.at.keep fun b hb => ⟨Nat.lt_of_lt_of_le hb.2 LG12.out, rfl⟩) (OW12.out.at.keep fun b hb => ⟨Nat.lt_of_lt_of_le hb.2 LW12.out, rfl⟩)).mono ?_
  rintro e w9 ⟨rfl, hb9⟩
  have B13 := B12.trans (hb9.mono B12.size)
  have OW13 := Lib.hid (OW12.out.keep (S' := Btw ((w4).heap.size) (w5.heap.size)) (w' := w9) fun b hb => ⟨hb, hb9.block b (Nat.lt_of_lt_of_le hb.2 LW12.out)⟩)
  have LW13 := Lib.hid (show w5.heap.size ≤ (w9).heap.size from Nat.le_trans LW12.out hb9.size)
  have Ox013 := Lib.hid (Ox012.out.keep (S' := Btw ((w5.alloc (.cells #[.int .i64 (instR (instV t0 t1)).op, .int .i64 (instR (instV t0 t1)).n, .string (instR (instV t0 t1)).s, .slice DOR1 (instR (instV t0 t1)).kids.length dor1] 64)).heap.size) (w6.heap.size)) (w' := w9) fun b hb => ⟨hb, hb9.block b (Nat.lt_of_lt_of_le hb.2 Lx012.out)⟩)
  have Lx013 := Lib.hid (show w6.heap.size ≤ (w9).heap.size from Nat.le_trans Lx012.out hb9.size)
  have Ox113 := Lib.hid (Ox112.out.keep (S' := Btw ((w6.alloc (.cells #[.slice X01 t0.vars.length x01, .int .i64 t0.ty.op, .int .i64 t0.ty.n, .string t0.ty.s, .slice X02 t0.ty.kids.length x02] 102)).heap.size) (w7.heap.size)) (w' := w9) fun b hb => ⟨hb, hb9.block b (Nat.lt_of_lt_of_le hb.2 Lx112.out)⟩)
  have Lx113 := Lib.hid (show w7.heap.size ≤ (w9).heap.size from Nat.le_trans Lx112.out hb9.size)
  have OG13 := Lib.hid (OG12.out.keep (S' := Btw ((w7).heap.size) (w8.heap.size)) (w' := w9) fun b hb => ⟨hb, hb9.block b (Nat.lt_of_lt_of_le hb.2 LG12.out)⟩)
  have LG13 := Lib.hid (show w8.heap.size ≤ (w9).heap.size from Nat.le_trans LG12.out hb9.size)
  have ba013 := Lib.hid (ba012.out.below hb9 ba012.out.lt)
  have bw13 := Lib.hid (bw12.out.below hb9 bw12.out.lt)
  have bx013 := Lib.hid (bx012.out.below hb9 bx012.out.lt)
  have bg13 := Lib.hid (bg12.out.below hb9 bg12.out.lt)
  have at013 := Lib.hid (at012.out.below hb9 hb9.size)
  have at113 := Lib.hid (at112.out.below hb9 hb9.size)
  have hcba013 := fun i => ba013.out.cell i
  have hcbw13 := fun i => bw13.out.cell i
  have hcbx013 := fun i => bx013.out.cell i
  have hcbg13 := fun i => bg13.out.cell i
  go_wp2_with fail
  have B14 : Below w.heap.size w (w9).drew := B13.drew
  have ba014 : Hid (Row (w9).drew (w.heap.size) 96 #[.slice A01 t0.vars.length c01, .int .i64 t0.ty.op, .int .i64 t0.ty.n, .string t0.ty.s, .slice A02 t0.ty.kids.length c02]) := ba013
  have bw14 : Hid (Row (w9).drew (w5.heap.size) 64 #[.int .i64 (instR (instV t0 t1)).op, .int .i64 (instR (instV t0 t1)).n, .string (instR (instV t0 t1)).s, .slice DOR1 (instR (instV t0 t1)).kids.length dor1]) := bw13
  have bx014 : Hid (Row (w9).drew (w6.heap.size) 102 #[.slice X01 t0.vars.length x01, .int .i64 t0.ty.op, .int .i64 t0.ty.n, .string t0.ty.s, .slice X02 t0.ty.kids.length x02]) := bx013
  have bg14 : Hid (Row (w9).drew (w8.heap.size) 64 #[.int .i64 (instR (instV t0 t1)).op, .int .i64 (instR (instV t0 t1)).n, .string (instR (instV t0 t1)).s, .slice GR1 (instR (instV t0 t1)).kids.length gr1]) := bg13
  have at014 := Lib.hid (at013.out.keep (w' := (w9).drew) (S' := Lt (w9).drew.heap.size) fun b hb => ⟨hb, rfl⟩)
  have at114 := Lib.hid (at113.out.keep (w' := (w9).drew) (S' := Lt (w9).drew.heap.size) fun b hb => ⟨hb, rfl⟩)
  have OW14 := Lib.hid (OW13.out.keep (S' := Btw ((w4).heap.size) (w5.heap.size)) (w' := (w9).drew) fun b hb => ⟨hb, rfl⟩)
  have LW14 := Lib.hid (show w5.heap.size ≤ ((w9).drew).heap.size from Nat.le_trans LW13.out (Nat.le_refl _))
  have Ox014 := Lib.hid (Ox013.out.keep (S' := Btw ((w5.alloc (.cells #[.int .i64 (instR (instV t0 t1)).op, .int .i64 (instR (instV t0 t1)).n, .string (instR (instV t0 t1)).s, .slice DOR1 (instR (instV t0 t1)).kids.length dor1] 64)).heap.size) (w6.heap.size)) (w' := (w9).drew) fun b hb => ⟨hb, rfl⟩)
  have Lx014 := Lib.hid (show w6.heap.size ≤ ((w9).drew).heap.size from Nat.le_trans Lx013.out (Nat.le_refl _))
  have Ox114 := Lib.hid (Ox113.out.keep (S' := Btw ((w6.alloc (.cells #[.slice X01 t0.vars.length x01, .int .i64 t0.ty.op, .int .i64 t0.ty.n, .string t0.ty.s, .slice X02 t0.ty.kids.length x02] 102)).heap.size) (w7.heap.size)) (w' := (w9).drew) fun b hb => ⟨hb, rfl⟩)
  have Lx114 := Lib.hid (show w7.heap.size ≤ ((w9).drew).heap.size from Nat.le_trans Lx113.out (Nat.le_refl _))
  have OG14 := Lib.hid (OG13.out.keep (S' := Btw ((w7).heap.size) (w8.heap.size)) (w' := (w9).drew) fun b hb => ⟨hb, rfl⟩)
  have LG14 := Lib.hid (show w8.heap.size ≤ ((w9).drew).heap.size from Nat.le_trans LG13.out (Nat.le_refl _))
  have hcba014 := fun i => ba014.out.cell i
  have hcbw14 := fun i => bw14.out.cell i
  have hcbx014 := fun i => bx014.out.cell i
  have hcbg14 := fun i => bg14.out.cell i
  go_region_held3 (fun w' => (∀ i, w'.cell? ⟨w.heap.size, i, none⟩ = (#[.slice A01 t0.vars.length c01, .int .i64 t0.ty.op, .int .i64 t0.ty.n, .string t0.ty.s, .slice A02 t0.ty.kids.length c02] : Array Value)[i]?) ∧ (∀ i, w'.cell? ⟨w5.heap.size, i, none⟩ = (#[.int .i64 (instR (instV t0 t1)).op, .int .i64 (instR (instV t0 t1)).n, .string (instR (instV t0 t1)).s, .slice DOR1 (instR (instV t0 t1)).kids.length dor1] : Array Value)[i]?) ∧ (∀ i, w'.cell? ⟨w6.heap.size, i, none⟩ = (#[.slice X01 t0.vars.length x01, .int .i64 t0.ty.op, .int .i64 t0.ty.n, .string t0.ty.s, .slice X02 t0.ty.kids.length x02] : Array Value)[i]?) ∧ (∀ i, w'.cell? ⟨w8.heap.size, i, none⟩ = (#[.int .i64 (instR (instV t0 t1)).op, .int .i64 (instR (instV t0 t1)).n, .string (instR (instV t0 t1)).s, .slice GR1 (instR (instV t0 t1)).kids.length gr1] : Array Value)[i]?)) (first | exact ⟨hcba014, hcbw14, hcbx014, hcbg14⟩ | exact ⟨hcba015, hcbw15, hcbx015, hcbg15⟩ | exact ⟨hcba016, hcbw16, hcbx016, hcbg16⟩) (first
    | (go_at_call 65
       refine (toScheme' t0 A01 c01 A02 c02 _ hm0 at014.out).mono ?_
       rintro e w10 ⟨Y01, y01, Y02, y02, rfl, owy0, hb10⟩
       have B15 := B14.trans (hb10.mono B14.size)
       have OW15 := Lib.hid (OW14.out.keep (S' := Btw ((w4).heap.size) (w5.heap.size)) (w' := w10) fun b hb => ⟨hb, hb10.block b (Nat.lt_of_lt_of_le hb.2 LW14.out)⟩)
       have LW15 := Lib.hid (show w5.heap.size ≤ (w10).heap.size from Nat.le_trans LW14.out hb10.size)
       have Ox015 := Lib.hid (Ox014.out.keep (S' := Btw ((w5.alloc (.cells #[.int .i64 (instR (instV t0 t1)).op, .int .i64 (instR (instV t0 t1)).n, .string (instR (instV t0 t1)).s, .slice DOR1 (instR (instV t0 t1)).kids.length dor1] 64)).heap.size) (w6.heap.size)) (w' := w10) fun b hb => ⟨hb, hb10.block b (Nat.lt_of_lt_of_le hb.2 Lx014.out)⟩)
       have Lx015 := Lib.hid (show w6.heap.size ≤ (w10).heap.size from Nat.le_trans Lx014.out hb10.size)
       have Ox115 := Lib.hid (Ox114.out.keep (S' := Btw ((w6.alloc (.cells #[.slice X01 t0.vars.length x01, .int .i64 t0.ty.op, .int .i64 t0.ty.n, .string t0.ty.s, .slice X02 t0.ty.kids.length x02] 102)).heap.size) (w7.heap.size)) (w' := w10) fun b hb => ⟨hb, hb10.block b (Nat.lt_of_lt_of_le hb.2 Lx114.out)⟩)
       have Lx115 := Lib.hid (show w7.heap.size ≤ (w10).heap.size from Nat.le_trans Lx114.out hb10.size)
       have OG15 := Lib.hid (OG14.out.keep (S' := Btw ((w7).heap.size) (w8.heap.size)) (w' := w10) fun b hb => ⟨hb, hb10.block b (Nat.lt_of_lt_of_le hb.2 LG14.out)⟩)
       have LG15 := Lib.hid (show w8.heap.size ≤ (w10).heap.size from Nat.le_trans LG14.out hb10.size)
       have ba015 := Lib.hid (ba014.out.below hb10 ba014.out.lt)
       have bw15 := Lib.hid (bw14.out.below hb10 bw14.out.lt)
       have bx015 := Lib.hid (bx014.out.below hb10 bx014.out.lt)
       have bg15 := Lib.hid (bg14.out.below hb10 bg14.out.lt)
       have at015 := Lib.hid (at014.out.below hb10 hb10.size)
       have at115 := Lib.hid (at114.out.below hb10 hb10.size)
       have yf015 := Lib.hid (owy0.at.keep fun b hb => ⟨hb.2, rfl⟩)
       have hcba015 := fun i => ba015.out.cell i
       have hcbw15 := fun i => bw15.out.cell i
       have hcbx015 := fun i => bx015.out.cell i
       have hcbg15 := fun i => bg15.out.cell i)
    | (go_at_call 68
       refine (eqScheme' t0 X01 x01 X02 x02 Y01 y01 Y02 y02 _ (Ox015.out.at.keep fun b hb => ⟨Nat.lt_of_lt_of_le hb.2 Lx015.out, rfl⟩) yf015.out).mono ?_
       rintro e w11 ⟨rfl, hb11⟩
       have B16 := B15.trans (hb11.mono B15.size)
       have OW16 := Lib.hid (OW15.out.keep (S' := Btw ((w4).heap.size) (w5.heap.size)) (w' := w11) fun b hb => ⟨hb, hb11.block b (Nat.lt_of_lt_of_le hb.2 LW15.out)⟩)
       have LW16 := Lib.hid (show w5.heap.size ≤ (w11).heap.size from Nat.le_trans LW15.out hb11.size)
       have Ox016 := Lib.hid (Ox015.out.keep (S' := Btw ((w5.alloc (.cells #[.int .i64 (instR (instV t0 t1)).op, .int .i64 (instR (instV t0 t1)).n, .string (instR (instV t0 t1)).s, .slice DOR1 (instR (instV t0 t1)).kids.length dor1] 64)).heap.size) (w6.heap.size)) (w' := w11) fun b hb => ⟨hb, hb11.block b (Nat.lt_of_lt_of_le hb.2 Lx015.out)⟩)
       have Lx016 := Lib.hid (show w6.heap.size ≤ (w11).heap.size from Nat.le_trans Lx015.out hb11.size)
       have Ox116 := Lib.hid (Ox115.out.keep (S' := Btw ((w6.alloc (.cells #[.slice X01 t0.vars.length x01, .int .i64 t0.ty.op, .int .i64 t0.ty.n, .string t0.ty.s, .slice X02 t0.ty.kids.length x02] 102)).heap.size) (w7.heap.size)) (w' := w11) fun b hb => ⟨hb, hb11.block b (Nat.lt_of_lt_of_le hb.2 Lx115.out)⟩)
       have Lx116 := Lib.hid (show w7.heap.size ≤ (w11).heap.size from Nat.le_trans Lx115.out hb11.size)
       have OG16 := Lib.hid (OG15.out.keep (S' := Btw ((w7).heap.size) (w8.heap.size)) (w' := w11) fun b hb => ⟨hb, hb11.block b (Nat.lt_of_lt_of_le hb.2 LG15.out)⟩)
       have LG16 := Lib.hid (show w8.heap.size ≤ (w11).heap.size from Nat.le_trans LG15.out hb11.size)
       have ba016 := Lib.hid (ba015.out.below hb11 ba015.out.lt)
       have bw16 := Lib.hid (bw15.out.below hb11 bw15.out.lt)
       have bx016 := Lib.hid (bx015.out.below hb11 bx015.out.lt)
       have bg16 := Lib.hid (bg15.out.below hb11 bg15.out.lt)
       have at016 := Lib.hid (at015.out.below hb11 hb11.size)
       have at116 := Lib.hid (at115.out.below hb11 hb11.size)
       have yf016 := Lib.hid (yf015.out.below hb11 hb11.size)
       have hcba016 := fun i => ba016.out.cell i
       have hcbw16 := fun i => bw16.out.cell i
       have hcbx016 := fun i => bx016.out.cell i
       have hcbg16 := fun i => bg16.out.cell i))
  go_wp2_with fail
  refine (toTyS' t1 A1 c1 _ at116.out hm1).mono ?_
  rintro e w12 ⟨Y11, y11, rfl, owy1, hb12⟩
  have B17 := B16.trans (hb12.mono B16.size)
  have OW17 := Lib.hid (OW16.out.keep (S' := Btw ((w4).heap.size) (w5.heap.size)) (w' := w12) fun b hb => ⟨hb, hb12.block b (Nat.lt_of_lt_of_le hb.2 LW16.out)⟩)
  have LW17 := Lib.hid (show w5.heap.size ≤ (w12).heap.size from Nat.le_trans LW16.out hb12.size)
  have Ox017 := Lib.hid (Ox016.out.keep (S' := Btw ((w5.alloc (.cells #[.int .i64 (instR (instV t0 t1)).op, .int .i64 (instR (instV t0 t1)).n, .string (instR (instV t0 t1)).s, .slice DOR1 (instR (instV t0 t1)).kids.length dor1] 64)).heap.size) (w6.heap.size)) (w' := w12) fun b hb => ⟨hb, hb12.block b (Nat.lt_of_lt_of_le hb.2 Lx016.out)⟩)
  have Lx017 := Lib.hid (show w6.heap.size ≤ (w12).heap.size from Nat.le_trans Lx016.out hb12.size)
  have Ox117 := Lib.hid (Ox116.out.keep (S' := Btw ((w6.alloc (.cells #[.slice X01 t0.vars.length x01, .int .i64 t0.ty.op, .int .i64 t0.ty.n, .string t0.ty.s, .slice X02 t0.ty.kids.length x02] 102)).heap.size) (w7.heap.size)) (w' := w12) fun b hb => ⟨hb, hb12.block b (Nat.lt_of_lt_of_le hb.2 Lx116.out)⟩)
  have Lx117 := Lib.hid (show w7.heap.size ≤ (w12).heap.size from Nat.le_trans Lx116.out hb12.size)
  have OG17 := Lib.hid (OG16.out.keep (S' := Btw ((w7).heap.size) (w8.heap.size)) (w' := w12) fun b hb => ⟨hb, hb12.block b (Nat.lt_of_lt_of_le hb.2 LG16.out)⟩)
  have LG17 := Lib.hid (show w8.heap.size ≤ (w12).heap.size from Nat.le_trans LG16.out hb12.size)
  have ba017 := Lib.hid (ba016.out.below hb12 ba016.out.lt)
  have bw17 := Lib.hid (bw16.out.below hb12 bw16.out.lt)
  have bx017 := Lib.hid (bx016.out.below hb12 bx016.out.lt)
  have bg17 := Lib.hid (bg16.out.below hb12 bg16.out.lt)
  have at017 := Lib.hid (at016.out.below hb12 hb12.size)
  have at117 := Lib.hid (at116.out.below hb12 hb12.size)
  have yf117 := Lib.hid (owy1.slLt)
  have hcba017 := fun i => ba017.out.cell i
  have hcbw17 := fun i => bw17.out.cell i
  have hcbx017 := fun i => bx017.out.cell i
  have hcbg17 := fun i => bg17.out.cell i
  go_wp2_with fail
  refine (eqTyS' t1 X11 Y11 x11 y11 _ (Ox117.out.sl.keep fun b hb => ⟨Nat.lt_of_lt_of_le hb.2 Lx117.out, rfl⟩) yf117.out).mono ?_
  rintro e w13 ⟨rfl, hb13⟩
  have B18 := B17.trans (hb13.mono B17.size)
  have OW18 := Lib.hid (OW17.out.keep (S' := Btw ((w4).heap.size) (w5.heap.size)) (w' := w13) fun b hb => ⟨hb, hb13.block b (Nat.lt_of_lt_of_le hb.2 LW17.out)⟩)
  have LW18 := Lib.hid (show w5.heap.size ≤ (w13).heap.size from Nat.le_trans LW17.out hb13.size)
  have Ox018 := Lib.hid (Ox017.out.keep (S' := Btw ((w5.alloc (.cells #[.int .i64 (instR (instV t0 t1)).op, .int .i64 (instR (instV t0 t1)).n, .string (instR (instV t0 t1)).s, .slice DOR1 (instR (instV t0 t1)).kids.length dor1] 64)).heap.size) (w6.heap.size)) (w' := w13) fun b hb => ⟨hb, hb13.block b (Nat.lt_of_lt_of_le hb.2 Lx017.out)⟩)
  have Lx018 := Lib.hid (show w6.heap.size ≤ (w13).heap.size from Nat.le_trans Lx017.out hb13.size)
  have Ox118 := Lib.hid (Ox117.out.keep (S' := Btw ((w6.alloc (.cells #[.slice X01 t0.vars.length x01, .int .i64 t0.ty.op, .int .i64 t0.ty.n, .string t0.ty.s, .slice X02 t0.ty.kids.length x02] 102)).heap.size) (w7.heap.size)) (w' := w13) fun b hb => ⟨hb, hb13.block b (Nat.lt_of_lt_of_le hb.2 Lx117.out)⟩)
  have Lx118 := Lib.hid (show w7.heap.size ≤ (w13).heap.size from Nat.le_trans Lx117.out hb13.size)
  have OG18 := Lib.hid (OG17.out.keep (S' := Btw ((w7).heap.size) (w8.heap.size)) (w' := w13) fun b hb => ⟨hb, hb13.block b (Nat.lt_of_lt_of_le hb.2 LG17.out)⟩)
  have LG18 := Lib.hid (show w8.heap.size ≤ (w13).heap.size from Nat.le_trans LG17.out hb13.size)
  have ba018 := Lib.hid (ba017.out.below hb13 ba017.out.lt)
  have bw18 := Lib.hid (bw17.out.below hb13 bw17.out.lt)
  have bx018 := Lib.hid (bx017.out.below hb13 bx017.out.lt)
  have bg18 := Lib.hid (bg17.out.below hb13 bg17.out.lt)
  have at018 := Lib.hid (at017.out.below hb13 hb13.size)
  have at118 := Lib.hid (at117.out.below hb13 hb13.size)
  have yf118 := Lib.hid (yf117.out.below hb13 hb13.size)
  have hcba018 := fun i => ba018.out.cell i
  have hcbw18 := fun i => bw18.out.cell i
  have hcbx018 := fun i => bx018.out.cell i
  have hcbg18 := fun i => bg18.out.cell i
  obtain ⟨k0, hk0e⟩ : ∃ k0 : Nat, k0 = 1 := ⟨_, rfl⟩
  have hcn0 : t0.cnt0 ≤ 33554432 := by have := t0.cnt0_le; have := t0.cnt_bulk; omega
  have hcn1 : cntL GTy.cnt t1 ≤ 33554432 := by have := GTy.cnts_bulk t1; omega
  go_wp2_with fail
  refine (markScheme0 t0 X01 x01 X02 x02 k0 _ (Btw ((w5.alloc (.cells #[.int .i64 (instR (instV t0 t1)).op, .int .i64 (instR (instV t0 t1)).n, .string (instR (instV t0 t1)).s, .slice DOR1 (instR (instV t0 t1)).kids.length dor1] 64)).heap.size) (w6.heap.size)) _ (by omega) (by omega) (by omega) (fun b hb => Nat.lt_of_lt_of_le hb.2 Lx018.out) Ox018.out).mono ?_
  rintro e w14 ⟨rfl, ho14, ht14⟩
  have B19 : Below w.heap.size w w14 := B18.trans (ht14.below (fun b hb => Nat.le_trans Wx0.out hb.1) B18.size)
  have OW19 := Lib.hid (OW18.out.keep (S' := Btw ((w4).heap.size) (w5.heap.size)) (w' := w14) fun b hb => ⟨hb, ht14.block b (Nat.lt_of_lt_of_le hb.2 LW18.out) (fun e => Nat.lt_irrefl _ (Nat.lt_of_lt_of_le hb.2 (Nat.le_trans ZW_x0.out e.1)))⟩)
  have LW19 := Lib.hid (show w5.heap.size ≤ (w14).heap.size from Nat.le_trans LW18.out ht14.size)
  have Ox119 := Lib.hid (Ox118.out.keep (S' := Btw ((w6.alloc (.cells #[.slice X01 t0.vars.length x01, .int .i64 t0.ty.op, .int .i64 t0.ty.n, .string t0.ty.s, .slice X02 t0.ty.kids.length x02] 102)).heap.size) (w7.heap.size)) (w' := w14) fun b hb => ⟨hb, ht14.block b (Nat.lt_of_lt_of_le hb.2 Lx118.out) (fun e => Nat.lt_irrefl _ (Nat.lt_of_lt_of_le e.2 (Nat.le_trans Zx0_x1.out hb.1)))⟩)
  have Lx119 := Lib.hid (show w7.heap.size ≤ (w14).heap.size from Nat.le_trans Lx118.out ht14.size)
  have OG19 := Lib.hid (OG18.out.keep (S' := Btw ((w7).heap.size) (w8.heap.size)) (w' := w14) fun b hb => ⟨hb, ht14.block b (Nat.lt_of_lt_of_le hb.2 LG18.out) (fun e => Nat.lt_irrefl _ (Nat.lt_of_lt_of_le e.2 (Nat.le_trans Zx0_G.out hb.1)))⟩)
  have LG19 := Lib.hid (show w8.heap.size ≤ (w14).heap.size from Nat.le_trans LG18.out ht14.size)
  have ba019 : Hid (Row w14 (w.heap.size) 96 #[.slice A01 t0.vars.length c01, .int .i64 t0.ty.op, .int .i64 t0.ty.n, .string t0.ty.s, .slice A02 t0.ty.kids.length c02]) := Lib.hid ((ht14.block (w.heap.size) ba018.out.lt (fun e => Nat.lt_irrefl _ (Nat.lt_of_lt_of_le Xba0_x0.out e.1))).trans ba018.out)
  have bw19 : Hid (Row w14 (w5.heap.size) 64 #[.int .i64 (instR (instV t0 t1)).op, .int .i64 (instR (instV t0 t1)).n, .string (instR (instV t0 t1)).s, .slice DOR1 (instR (instV t0 t1)).kids.length dor1]) := Lib.hid ((ht14.block (w5.heap.size) bw18.out.lt (fun e => Nat.lt_irrefl _ (Nat.lt_of_lt_of_le Xbw_x0.out e.1))).trans bw18.out)
  have bx019 : Hid (Row w14 (w6.heap.size) 102 #[.slice X01 t0.vars.length x01, .int .i64 t0.ty.op, .int .i64 t0.ty.n, .string t0.ty.s, .slice X02 t0.ty.kids.length x02]) := Lib.hid ((ht14.block (w6.heap.size) bx018.out.lt (fun e => Nat.lt_irrefl _ (Nat.lt_of_lt_of_le e.2 Yx0_bx0.out))).trans bx018.out)
  have bg19 : Hid (Row w14 (w8.heap.size) 64 #[.int .i64 (instR (instV t0 t1)).op, .int .i64 (instR (instV t0 t1)).n, .string (instR (instV t0 t1)).s, .slice GR1 (instR (instV t0 t1)).kids.length gr1]) := Lib.hid ((ht14.block (w8.heap.size) bg18.out.lt (fun e => Nat.lt_irrefl _ (Nat.lt_of_lt_of_le e.2 Yx0_bg.out))).trans bg18.out)
  have at019 := Lib.hid (at00.out.below B19 B19.size)
  have at119 := Lib.hid (at10.out.below B19 B19.size)
  have hcba019 := fun i => ba019.out.cell i
  have hcbw19 := fun i => bw19.out.cell i
  have hcbx019 := fun i => bx019.out.cell i
  have hcbg19 := fun i => bg19.out.cell i
  obtain ⟨k1, hk1e⟩ : ∃ k1 : Nat, k1 = k0 + t0.cnt0 := ⟨_, rfl⟩
  rw [← hk1e]
  go_wp2_with fail
  refine (markTyS' t1 X11 x11 k1 _ (Btw ((w6.alloc (.cells #[.slice X01 t0.vars.length x01, .int .i64 t0.ty.op, .int .i64 t0.ty.n, .string t0.ty.s, .slice X02 t0.ty.kids.length x02] 102)).heap.size) (w7.heap.size)) _ (by omega) (by omega) (by omega) (fun b hb => Nat.lt_of_lt_of_le hb.2 Lx119.out) Ox119.out).mono ?_
  rintro e w15 ⟨rfl, ho15, ht15⟩
  have B20 : Below w.heap.size w w15 := B19.trans (ht15.below (fun b hb => Nat.le_trans Wx1.out hb.1) B19.size)
  have OW20 := Lib.hid (OW19.out.keep (S' := Btw ((w4).heap.size) (w5.heap.size)) (w' := w15) fun b hb => ⟨hb, ht15.block b (Nat.lt_of_lt_of_le hb.2 LW19.out) (fun e => Nat.lt_irrefl _ (Nat.lt_of_lt_of_le hb.2 (Nat.le_trans ZW_x1.out e.1)))⟩)
  have LW20 := Lib.hid (show w5.heap.size ≤ (w15).heap.size from Nat.le_trans LW19.out ht15.size)
  have OG20 := Lib.hid (OG19.out.keep (S' := Btw ((w7).heap.size) (w8.heap.size)) (w' := w15) fun b hb => ⟨hb, ht15.block b (Nat.lt_of_lt_of_le hb.2 LG19.out) (fun e => Nat.lt_irrefl _ (Nat.lt_of_lt_of_le e.2 (Nat.le_trans Zx1_G.out hb.1)))⟩)
  have LG20 := Lib.hid (show w8.heap.size ≤ (w15).heap.size from Nat.le_trans LG19.out ht15.size)
  have ba020 : Hid (Row w15 (w.heap.size) 96 #[.slice A01 t0.vars.length c01, .int .i64 t0.ty.op, .int .i64 t0.ty.n, .string t0.ty.s, .slice A02 t0.ty.kids.length c02]) := Lib.hid ((ht15.block (w.heap.size) ba019.out.lt (fun e => Nat.lt_irrefl _ (Nat.lt_of_lt_of_le Xba0_x1.out e.1))).trans ba019.out)
  have bw20 : Hid (Row w15 (w5.heap.size) 64 #[.int .i64 (instR (instV t0 t1)).op, .int .i64 (instR (instV t0 t1)).n, .string (instR (instV t0 t1)).s, .slice DOR1 (instR (instV t0 t1)).kids.length dor1]) := Lib.hid ((ht15.block (w5.heap.size) bw19.out.lt (fun e => Nat.lt_irrefl _ (Nat.lt_of_lt_of_le Xbw_x1.out e.1))).trans bw19.out)
  have bx020 : Hid (Row w15 (w6.heap.size) 102 #[.slice X01 t0.vars.length x01, .int .i64 t0.ty.op, .int .i64 t0.ty.n, .string t0.ty.s, .slice X02 t0.ty.kids.length x02]) := Lib.hid ((ht15.block (w6.heap.size) bx019.out.lt (fun e => Nat.lt_irrefl _ (Nat.lt_of_lt_of_le Xbx0_x1.out e.1))).trans bx019.out)
  have bg20 : Hid (Row w15 (w8.heap.size) 64 #[.int .i64 (instR (instV t0 t1)).op, .int .i64 (instR (instV t0 t1)).n, .string (instR (instV t0 t1)).s, .slice GR1 (instR (instV t0 t1)).kids.length gr1]) := Lib.hid ((ht15.block (w8.heap.size) bg19.out.lt (fun e => Nat.lt_irrefl _ (Nat.lt_of_lt_of_le e.2 Yx1_bg.out))).trans bg19.out)
  have at020 := Lib.hid (at00.out.below B20 B20.size)
  have at120 := Lib.hid (at10.out.below B20 B20.size)
  have hcba020 := fun i => ba020.out.cell i
  have hcbw20 := fun i => bw20.out.cell i
  have hcbx020 := fun i => bx020.out.cell i
  have hcbg20 := fun i => bg20.out.cell i
  obtain ⟨k2, hk2e⟩ : ∃ k2 : Nat, k2 = k1 + cntL GTy.cnt t1 := ⟨_, rfl⟩
  rw [← hk2e]
  go_wp2_with fail
  refine (eqTy' (instR (instV t0 t1)) GR1 gr1 DOR1 dor1 _ (OG20.out.at.keep fun b hb => ⟨Nat.lt_of_lt_of_le hb.2 LG20.out, rfl⟩) (OW20.out.at.keep fun b hb => ⟨Nat.lt_of_lt_of_le hb.2 LW20.out, rfl⟩)).mono ?_
  rintro e w16 ⟨rfl, hb16⟩
  have B21 := B20.trans (hb16.mono B20.size)
  have OW21 := Lib.hid (OW20.out.keep (S' := Btw ((w4).heap.size) (w5.heap.size)) (w' := w16) fun b hb => ⟨hb, hb16.block b (Nat.lt_of_lt_of_le hb.2 LW20.out)⟩)
  have LW21 := Lib.hid (show w5.heap.size ≤ (w16).heap.size from Nat.le_trans LW20.out hb16.size)
  have OG21 := Lib.hid (OG20.out.keep (S' := Btw ((w7).heap.size) (w8.heap.size)) (w' := w16) fun b hb => ⟨hb, hb16.block b (Nat.lt_of_lt_of_le hb.2 LG20.out)⟩)
  have LG21 := Lib.hid (show w8.heap.size ≤ (w16).heap.size from Nat.le_trans LG20.out hb16.size)
  have ba021 := Lib.hid (ba020.out.below hb16 ba020.out.lt)
  have bw21 := Lib.hid (bw20.out.below hb16 bw20.out.lt)
  have bx021 := Lib.hid (bx020.out.below hb16 bx020.out.lt)
  have bg21 := Lib.hid (bg20.out.below hb16 bg20.out.lt)
  have at021 := Lib.hid (at020.out.below hb16 hb16.size)
  have at121 := Lib.hid (at120.out.below hb16 hb16.size)
  have hcba021 := fun i => ba021.out.cell i
  have hcbw21 := fun i => bw21.out.cell i
  have hcbx021 := fun i => bx021.out.cell i
  have hcbg21 := fun i => bg21.out.cell i
  have hcr : (instR (instV t0 t1)).cnt0 ≤ 2305843009213693952 := by have a := (instR (instV t0 t1)).cnt0_le; have b := (instR (instV t0 t1)).cnt_bulk; have c := instR_bulk t0 t1 hm0 hm1; omega
  go_wp2_with fail
  refine (markTy0 (instR (instV t0 t1)) GR1 gr1 k0 _ (Btw ((w7).heap.size) (w8.heap.size)) _ (by omega) (by omega) (by omega) (fun b hb => Nat.lt_of_lt_of_le hb.2 LG21.out) OG21.out).mono ?_
  rintro e w17 ⟨rfl, ho17, ht17⟩
  have B22 : Below w.heap.size w w17 := B21.trans (ht17.below (fun b hb => Nat.le_trans WG.out hb.1) B21.size)
  have OW22 := Lib.hid (OW21.out.keep (S' := Btw ((w4).heap.size) (w5.heap.size)) (w' := w17) fun b hb => ⟨hb, ht17.block b (Nat.lt_of_lt_of_le hb.2 LW21.out) (fun e => Nat.lt_irrefl _ (Nat.lt_of_lt_of_le hb.2 (Nat.le_trans ZW_G.out e.1)))⟩)
  have LW22 := Lib.hid (show w5.heap.size ≤ (w17).heap.size from Nat.le_trans LW21.out ht17.size)
  have ba022 : Hid (Row w17 (w.heap.size) 96 #[.slice A01 t0.vars.length c01, .int .i64 t0.ty.op, .int .i64 t0.ty.n, .string t0.ty.s, .slice A02 t0.ty.kids.length c02]) := Lib.hid ((ht17.block (w.heap.size) ba021.out.lt (fun e => Nat.lt_irrefl _ (Nat.lt_of_lt_of_le Xba0_G.out e.1))).trans ba021.out)
  have bw22 : Hid (Row w17 (w5.heap.size) 64 #[.int .i64 (instR (instV t0 t1)).op, .int .i64 (instR (instV t0 t1)).n, .string (instR (instV t0 t1)).s, .slice DOR1 (instR (instV t0 t1)).kids.length dor1]) := Lib.hid ((ht17.block (w5.heap.size) bw21.out.lt (fun e => Nat.lt_irrefl _ (Nat.lt_of_lt_of_le Xbw_G.out e.1))).trans bw21.out)
  have bx022 : Hid (Row w17 (w6.heap.size) 102 #[.slice X01 t0.vars.length x01, .int .i64 t0.ty.op, .int .i64 t0.ty.n, .string t0.ty.s, .slice X02 t0.ty.kids.length x02]) := Lib.hid ((ht17.block (w6.heap.size) bx021.out.lt (fun e => Nat.lt_irrefl _ (Nat.lt_of_lt_of_le Xbx0_G.out e.1))).trans bx021.out)
  have bg22 : Hid (Row w17 (w8.heap.size) 64 #[.int .i64 (instR (instV t0 t1)).op, .int .i64 (instR (instV t0 t1)).n, .string (instR (instV t0 t1)).s, .slice GR1 (instR (instV t0 t1)).kids.length gr1]) := Lib.hid ((ht17.block (w8.heap.size) bg21.out.lt (fun e => Nat.lt_irrefl _ (Nat.lt_of_lt_of_le e.2 YG_bg.out))).trans bg21.out)
  have at022 := Lib.hid (at00.out.below B22 B22.size)
  have at122 := Lib.hid (at10.out.below B22 B22.size)
  have OG22 := Lib.hid ho17
  have LG22 := Lib.hid (show w8.heap.size ≤ (w17).heap.size from Nat.le_trans LG21.out ht17.size)
  have hcba022 := fun i => ba022.out.cell i
  have hcbw22 := fun i => bw22.out.cell i
  have hcbx022 := fun i => bx022.out.cell i
  have hcbg22 := fun i => bg22.out.cell i
  obtain ⟨km, hkm⟩ : ∃ km : Nat, km = k0 + (instR (instV t0 t1)).cnt0 := ⟨_, rfl⟩
  rw [← hkm]
  go_wp2_with fail
  refine (heldTy0 (instR (instV t0 t1)) GR1 gr1 k0 _ _ (by omega) (by omega) (by omega) (OG22.out.at.keep fun b hb => ⟨Nat.lt_of_lt_of_le hb.2 LG22.out, rfl⟩)).mono ?_
  rintro e w18 ⟨rfl, hb18⟩
  have B23 := B22.trans (hb18.mono B22.size)
  have OW23 := Lib.hid (OW22.out.keep (S' := Btw ((w4).heap.size) (w5.heap.size)) (w' := w18) fun b hb => ⟨hb, hb18.block b (Nat.lt_of_lt_of_le hb.2 LW22.out)⟩)
  have LW23 := Lib.hid (show w5.heap.size ≤ (w18).heap.size from Nat.le_trans LW22.out hb18.size)
  have OG23 := Lib.hid (OG22.out.keep (S' := Btw ((w7).heap.size) (w8.heap.size)) (w' := w18) fun b hb => ⟨hb, hb18.block b (Nat.lt_of_lt_of_le hb.2 LG22.out)⟩)
  have LG23 := Lib.hid (show w8.heap.size ≤ (w18).heap.size from Nat.le_trans LG22.out hb18.size)
  have ba023 := Lib.hid (ba022.out.below hb18 ba022.out.lt)
  have bw23 := Lib.hid (bw22.out.below hb18 bw22.out.lt)
  have bx023 := Lib.hid (bx022.out.below hb18 bx022.out.lt)
  have bg23 := Lib.hid (bg22.out.below hb18 bg22.out.lt)
  have at023 := Lib.hid (at022.out.below hb18 hb18.size)
  have at123 := Lib.hid (at122.out.below hb18 hb18.size)
  have hcba023 := fun i => ba023.out.cell i
  have hcbw23 := fun i => bw23.out.cell i
  have hcbx023 := fun i => bx023.out.cell i
  have hcbg23 := fun i => bg23.out.cell i
  rw [← hkm]
  go_wp2_with fail
  refine (toScheme' t0 A01 c01 A02 c02 _ hm0 at023.out).mono ?_
  rintro e w19 ⟨Z01, z01, Z02, z02, rfl, owz0, hb19⟩
  have B24 := B23.trans (hb19.mono B23.size)
  have OW24 := Lib.hid (OW23.out.keep (S' := Btw ((w4).heap.size) (w5.heap.size)) (w' := w19) fun b hb => ⟨hb, hb19.block b (Nat.lt_of_lt_of_le hb.2 LW23.out)⟩)
  have LW24 := Lib.hid (show w5.heap.size ≤ (w19).heap.size from Nat.le_trans LW23.out hb19.size)
  have OG24 := Lib.hid (OG23.out.keep (S' := Btw ((w7).heap.size) (w8.heap.size)) (w' := w19) fun b hb => ⟨hb, hb19.block b (Nat.lt_of_lt_of_le hb.2 LG23.out)⟩)
  have LG24 := Lib.hid (show w8.heap.size ≤ (w19).heap.size from Nat.le_trans LG23.out hb19.size)
  have ba024 := Lib.hid (ba023.out.below hb19 ba023.out.lt)
  have bw24 := Lib.hid (bw23.out.below hb19 bw23.out.lt)
  have bx024 := Lib.hid (bx023.out.below hb19 bx023.out.lt)
  have bg24 := Lib.hid (bg23.out.below hb19 bg23.out.lt)
  have at024 := Lib.hid (at023.out.below hb19 hb19.size)
  have at124 := Lib.hid (at123.out.below hb19 hb19.size)
  have zf024 := Lib.hid (owz0.at.keep fun b hb => ⟨hb.2, rfl⟩)
  have hcba024 := fun i => ba024.out.cell i
  have hcbw24 := fun i => bw24.out.cell i
  have hcbx024 := fun i => bx024.out.cell i
  have hcbg24 := fun i => bg24.out.cell i
  go_wp2_with fail
  refine (toTyS' t1 A1 c1 _ at124.out hm1).mono ?_
  rintro e w20 ⟨Z11, z11, rfl, owz1, hb20⟩
  have B25 := B24.trans (hb20.mono B24.size)
  have OW25 := Lib.hid (OW24.out.keep (S' := Btw ((w4).heap.size) (w5.heap.size)) (w' := w20) fun b hb => ⟨hb, hb20.block b (Nat.lt_of_lt_of_le hb.2 LW24.out)⟩)
  have LW25 := Lib.hid (show w5.heap.size ≤ (w20).heap.size from Nat.le_trans LW24.out hb20.size)
  have OG25 := Lib.hid (OG24.out.keep (S' := Btw ((w7).heap.size) (w8.heap.size)) (w' := w20) fun b hb => ⟨hb, hb20.block b (Nat.lt_of_lt_of_le hb.2 LG24.out)⟩)
  have LG25 := Lib.hid (show w8.heap.size ≤ (w20).heap.size from Nat.le_trans LG24.out hb20.size)
  have ba025 := Lib.hid (ba024.out.below hb20 ba024.out.lt)
  have bw25 := Lib.hid (bw24.out.below hb20 bw24.out.lt)
  have bx025 := Lib.hid (bx024.out.below hb20 bx024.out.lt)
  have bg25 := Lib.hid (bg24.out.below hb20 bg24.out.lt)
  have at025 := Lib.hid (at024.out.below hb20 hb20.size)
  have at125 := Lib.hid (at124.out.below hb20 hb20.size)
  have zf025 := Lib.hid (zf024.out.below hb20 hb20.size)
  have zf125 := Lib.hid (owz1.slLt)
  have hcba025 := fun i => ba025.out.cell i
  have hcbw25 := fun i => bw25.out.cell i
  have hcbx025 := fun i => bx025.out.cell i
  have hcbg25 := fun i => bg25.out.cell i
  go_wp2_with fail
  refine (implInstance t0 Z01 z01 Z02 z02 t1 Z11 z11 _ hm0 hm1 zf025.out zf125.out).mono ?_
  rintro e w21 ⟨ZOR1, zor1, rfl, owzoR, hb21⟩
  have B26 := B25.trans (hb21.mono B25.size)
  have OW26 := Lib.hid (OW25.out.keep (S' := Btw ((w4).heap.size) (w5.heap.size)) (w' := w21) fun b hb => ⟨hb, hb21.block b (Nat.lt_of_lt_of_le hb.2 LW25.out)⟩)
  have LW26 := Lib.hid (show w5.heap.size ≤ (w21).heap.size from Nat.le_trans LW25.out hb21.size)
  have OG26 := Lib.hid (OG25.out.keep (S' := Btw ((w7).heap.size) (w8.heap.size)) (w' := w21) fun b hb => ⟨hb, hb21.block b (Nat.lt_of_lt_of_le hb.2 LG25.out)⟩)
  have LG26 := Lib.hid (show w8.heap.size ≤ (w21).heap.size from Nat.le_trans LG25.out hb21.size)
  have ba026 := Lib.hid (ba025.out.below hb21 ba025.out.lt)
  have bw26 := Lib.hid (bw25.out.below hb21 bw25.out.lt)
  have bx026 := Lib.hid (bx025.out.below hb21 bx025.out.lt)
  have bg26 := Lib.hid (bg25.out.below hb21 bg25.out.lt)
  have at026 := Lib.hid (at025.out.below hb21 hb21.size)
  have at126 := Lib.hid (at125.out.below hb21 hb21.size)
  have zf026 := Lib.hid (zf025.out.below hb21 hb21.size)
  have zf126 := Lib.hid (zf125.out.below hb21 hb21.size)
  have ZW_H := Lib.hid (show w5.heap.size ≤ (w20).heap.size from LW25.out)
  have ZG_H := Lib.hid (show w8.heap.size ≤ (w20).heap.size from LG25.out)
  have Xba0_H := Lib.hid (show w.heap.size < (w20).heap.size from ba025.out.lt)
  have Xbw_H := Lib.hid (show w5.heap.size < (w20).heap.size from bw25.out.lt)
  have Xbx0_H := Lib.hid (show w6.heap.size < (w20).heap.size from bx025.out.lt)
  have Xbg_H := Lib.hid (show w8.heap.size < (w20).heap.size from bg25.out.lt)
  have WH := Lib.hid (show w.heap.size ≤ (w20).heap.size from B25.size)
  have OH26 := Lib.hid (owzoR)
  have LH26 := Lib.hid (show w21.heap.size ≤ (w21).heap.size from Nat.le_refl _)
  have hcba026 := fun i => ba026.out.cell i
  have hcbw26 := fun i => bw26.out.cell i
  have hcbx026 := fun i => bx026.out.cell i
  have hcbg26 := fun i => bg26.out.cell i
  have E27 : Below (w21).heap.size (w21) (w21.alloc (.cells #[.int .i64 (instR (instV t0 t1)).op, .int .i64 (instR (instV t0 t1)).n, .string (instR (instV t0 t1)).s, .slice ZOR1 (instR (instV t0 t1)).kids.length zor1] 64)) := (Below.refl _ _).alloc (Nat.le_refl _) _
  have B27 : Below w.heap.size w (w21.alloc (.cells #[.int .i64 (instR (instV t0 t1)).op, .int .i64 (instR (instV t0 t1)).n, .string (instR (instV t0 t1)).s, .slice ZOR1 (instR (instV t0 t1)).kids.length zor1] 64)) := B26.alloc B26.size _
  have ba027 := Lib.hid (Row.alloc ba026.out (.cells #[.int .i64 (instR (instV t0 t1)).op, .int .i64 (instR (instV t0 t1)).n, .string (instR (instV t0 t1)).s, .slice ZOR1 (instR (instV t0 t1)).kids.length zor1] 64))
  have bw27 := Lib.hid (Row.alloc bw26.out (.cells #[.int .i64 (instR (instV t0 t1)).op, .int .i64 (instR (instV t0 t1)).n, .string (instR (instV t0 t1)).s, .slice ZOR1 (instR (instV t0 t1)).kids.length zor1] 64))
  have bx027 := Lib.hid (Row.alloc bx026.out (.cells #[.int .i64 (instR (instV t0 t1)).op, .int .i64 (instR (instV t0 t1)).n, .string (instR (instV t0 t1)).s, .slice ZOR1 (instR (instV t0 t1)).kids.length zor1] 64))
  have bg27 := Lib.hid (Row.alloc bg26.out (.cells #[.int .i64 (instR (instV t0 t1)).op, .int .i64 (instR (instV t0 t1)).n, .string (instR (instV t0 t1)).s, .slice ZOR1 (instR (instV t0 t1)).kids.length zor1] 64))
  have bh27 := Lib.hid (Row.new' (w21) 64 #[.int .i64 (instR (instV t0 t1)).op, .int .i64 (instR (instV t0 t1)).n, .string (instR (instV t0 t1)).s, .slice ZOR1 (instR (instV t0 t1)).kids.length zor1] (g := w21.heap.size) rfl)
  have at027 := Lib.hid (at026.out.below E27 E27.size)
  have at127 := Lib.hid (at126.out.below E27 E27.size)
  have OW27 := Lib.hid (OW26.out.keep (S' := Btw ((w4).heap.size) (w5.heap.size)) (w' := w21.alloc (.cells #[.int .i64 (instR (instV t0 t1)).op, .int .i64 (instR (instV t0 t1)).n, .string (instR (instV t0 t1)).s, .slice ZOR1 (instR (instV t0 t1)).kids.length zor1] 64)) fun b hb => ⟨hb, Below.heap_alloc _ _ _ (Nat.lt_of_lt_of_le hb.2 LW26.out)⟩)
  have LW27 := Lib.hid (show w5.heap.size ≤ (w21.alloc (.cells #[.int .i64 (instR (instV t0 t1)).op, .int .i64 (instR (instV t0 t1)).n, .string (instR (instV t0 t1)).s, .slice ZOR1 (instR (instV t0 t1)).kids.length zor1] 64)).heap.size from Nat.le_trans LW26.out E27.size)
  have OG27 := Lib.hid (OG26.out.keep (S' := Btw ((w7).heap.size) (w8.heap.size)) (w' := w21.alloc (.cells #[.int .i64 (instR (instV t0 t1)).op, .int .i64 (instR (instV t0 t1)).n, .string (instR (instV t0 t1)).s, .slice ZOR1 (instR (instV t0 t1)).kids.length zor1] 64)) fun b hb => ⟨hb, Below.heap_alloc _ _ _ (Nat.lt_of_lt_of_le hb.2 LG26.out)⟩)
  have LG27 := Lib.hid (show w8.heap.size ≤ (w21.alloc (.cells #[.int .i64 (instR (instV t0 t1)).op, .int .i64 (instR (instV t0 t1)).n, .string (instR (instV t0 t1)).s, .slice ZOR1 (instR (instV t0 t1)).kids.length zor1] 64)).heap.size from Nat.le_trans LG26.out E27.size)
  have OH27 := Lib.hid (OH26.out.keep (S' := Btw ((w20).heap.size) (w21.heap.size)) (w' := w21.alloc (.cells #[.int .i64 (instR (instV t0 t1)).op, .int .i64 (instR (instV t0 t1)).n, .string (instR (instV t0 t1)).s, .slice ZOR1 (instR (instV t0 t1)).kids.length zor1] 64)) fun b hb => ⟨hb, Below.heap_alloc _ _ _ (Nat.lt_of_lt_of_le hb.2 LH26.out)⟩)
  have LH27 := Lib.hid (show w21.heap.size ≤ (w21.alloc (.cells #[.int .i64 (instR (instV t0 t1)).op, .int .i64 (instR (instV t0 t1)).n, .string (instR (instV t0 t1)).s, .slice ZOR1 (instR (instV t0 t1)).kids.length zor1] 64)).heap.size from Nat.le_trans LH26.out E27.size)
  have YW_bh := Lib.hid (show w5.heap.size ≤ w21.heap.size from by have := LW26.out; simpa using this)
  have YG_bh := Lib.hid (show w8.heap.size ≤ w21.heap.size from by have := LG26.out; simpa using this)
  have YH_bh := Lib.hid (show w21.heap.size ≤ w21.heap.size from by have := LH26.out; simpa using this)
  have hcba027 := fun i => ba027.out.cell i
  have hcbw27 := fun i => bw27.out.cell i
  have hcbx027 := fun i => bx027.out.cell i
  have hcbg27 := fun i => bg27.out.cell i
  have hcbh27 := fun i => bh27.out.cell i
  go_wp2_with fail
  refine (eqTy' (instR (instV t0 t1)) ZOR1 zor1 DOR1 dor1 _ (OH27.out.at.keep fun b hb => ⟨Nat.lt_of_lt_of_le hb.2 LH27.out, rfl⟩) (OW27.out.at.keep fun b hb => ⟨Nat.lt_of_lt_of_le hb.2 LW27.out, rfl⟩)).mono ?_
  rintro e w22 ⟨rfl, hb22⟩
  have B28 := B27.trans (hb22.mono B27.size)
  have OW28 := Lib.hid (OW27.out.keep (S' := Btw ((w4).heap.size) (w5.heap.size)) (w' := w22) fun b hb => ⟨hb, hb22.block b (Nat.lt_of_lt_of_le hb.2 LW27.out)⟩)
  have LW28 := Lib.hid (show w5.heap.size ≤ (w22).heap.size from Nat.le_trans LW27.out hb22.size)
  have OG28 := Lib.hid (OG27.out.keep (S' := Btw ((w7).heap.size) (w8.heap.size)) (w' := w22) fun b hb => ⟨hb, hb22.block b (Nat.lt_of_lt_of_le hb.2 LG27.out)⟩)
  have LG28 := Lib.hid (show w8.heap.size ≤ (w22).heap.size from Nat.le_trans LG27.out hb22.size)
  have OH28 := Lib.hid (OH27.out.keep (S' := Btw ((w20).heap.size) (w21.heap.size)) (w' := w22) fun b hb => ⟨hb, hb22.block b (Nat.lt_of_lt_of_le hb.2 LH27.out)⟩)
  have LH28 := Lib.hid (show w21.heap.size ≤ (w22).heap.size from Nat.le_trans LH27.out hb22.size)
  have ba028 := Lib.hid (ba027.out.below hb22 ba027.out.lt)
  have bw28 := Lib.hid (bw27.out.below hb22 bw27.out.lt)
  have bx028 := Lib.hid (bx027.out.below hb22 bx027.out.lt)
  have bg28 := Lib.hid (bg27.out.below hb22 bg27.out.lt)
  have bh28 := Lib.hid (bh27.out.below hb22 bh27.out.lt)
  have at028 := Lib.hid (at027.out.below hb22 hb22.size)
  have at128 := Lib.hid (at127.out.below hb22 hb22.size)
  have hcba028 := fun i => ba028.out.cell i
  have hcbw28 := fun i => bw28.out.cell i
  have hcbx028 := fun i => bx028.out.cell i
  have hcbg28 := fun i => bg28.out.cell i
  have hcbh28 := fun i => bh28.out.cell i
  go_wp2_with fail
  refine (heldTy0 (instR (instV t0 t1)) GR1 gr1 k0 _ _ (by omega) (by omega) (by omega) (OG28.out.at.keep fun b hb => ⟨Nat.lt_of_lt_of_le hb.2 LG28.out, rfl⟩)).mono ?_
  rintro e w23 ⟨rfl, hb23⟩
  have B29 := B28.trans (hb23.mono B28.size)
  have OW29 := Lib.hid (OW28.out.keep (S' := Btw ((w4).heap.size) (w5.heap.size)) (w' := w23) fun b hb => ⟨hb, hb23.block b (Nat.lt_of_lt_of_le hb.2 LW28.out)⟩)
  have LW29 := Lib.hid (show w5.heap.size ≤ (w23).heap.size from Nat.le_trans LW28.out hb23.size)
  have OG29 := Lib.hid (OG28.out.keep (S' := Btw ((w7).heap.size) (w8.heap.size)) (w' := w23) fun b hb => ⟨hb, hb23.block b (Nat.lt_of_lt_of_le hb.2 LG28.out)⟩)
  have LG29 := Lib.hid (show w8.heap.size ≤ (w23).heap.size from Nat.le_trans LG28.out hb23.size)
  have OH29 := Lib.hid (OH28.out.keep (S' := Btw ((w20).heap.size) (w21.heap.size)) (w' := w23) fun b hb => ⟨hb, hb23.block b (Nat.lt_of_lt_of_le hb.2 LH28.out)⟩)
  have LH29 := Lib.hid (show w21.heap.size ≤ (w23).heap.size from Nat.le_trans LH28.out hb23.size)
  have ba029 := Lib.hid (ba028.out.below hb23 ba028.out.lt)
  have bw29 := Lib.hid (bw28.out.below hb23 bw28.out.lt)
  have bx029 := Lib.hid (bx028.out.below hb23 bx028.out.lt)
  have bg29 := Lib.hid (bg28.out.below hb23 bg28.out.lt)
  have bh29 := Lib.hid (bh28.out.below hb23 bh28.out.lt)
  have at029 := Lib.hid (at028.out.below hb23 hb23.size)
  have at129 := Lib.hid (at128.out.below hb23 hb23.size)
  have hcba029 := fun i => ba029.out.cell i
  have hcbw29 := fun i => bw29.out.cell i
  have hcbx029 := fun i => bx029.out.cell i
  have hcbg29 := fun i => bg29.out.cell i
  have hcbh29 := fun i => bh29.out.cell i
  rw [← hkm]
  go_wp2_with fail
  go_ret
  exact ⟨rfl, B29⟩
end Go.Proofs.Ytnjindgpmacjmaa
