/- The walk of the law FnExactFreeVars. Conditions: none. -/
import Derived.Test.YtjcgfbjdailgoaaFreeVars
import Derived.Test.YtjcgfbjdailgoaaATy
import Derived.Test.YtjcgfbjdailgoaaMTy
import Derived.Test.YtjcgfbjdailgoaaInt
import Derived.Deep.RegionHeld3
import Derived.Deep.RegionLaw
import Derived.Deep.CutRange
namespace Go.Proofs.Ytjcgfbjdailgoaa
open Go.RowKit
set_option linter.unusedVariables false
set_option linter.unusedSimpArgs false
set_option linter.unnecessarySimpa false
set_option maxHeartbeats 4000000

set_option maxRecDepth 20000 in
theorem walkExactFreeVars (t0 : GTy) (A01 : Option Addr) (c01 : Nat) (w : World) (hat0 : GTy.At w (Lt w.heap.size) A01 c01 t0) :
    Calls Try.prog 7 #[.agg #[.int .i64 t0.op, .int .i64 t0.n, .string t0.s, .slice A01 t0.kids.length c01]] w fun e w' => e = .returned (.bool true) ∧ Below w.heap.size w w' := by
  have B0 : Below w.heap.size w w := Below.refl _ _
  have at00 := Lib.hid hat0
  clear hat0
  have E1 : Below (w).heap.size (w) (w.alloc (.cells #[.int .i64 t0.op, .int .i64 t0.n, .string t0.s, .slice A01 t0.kids.length c01] 24)) := (Below.refl _ _).alloc (Nat.le_refl _) _
  have B1 : Below w.heap.size w (w.alloc (.cells #[.int .i64 t0.op, .int .i64 t0.n, .string t0.s, .slice A01 t0.kids.length c01] 24)) := B0.alloc B0.size _
  have ba01 := Lib.hid (Row.new' (w) 24 #[.int .i64 t0.op, .int .i64 t0.n, .string t0.s, .slice A01 t0.kids.length c01] (g := w.heap.size) rfl)
  have at01 := Lib.hid (at00.out.below E1 E1.size)
  go_enter Try.func7, Try.ntmps7
  go_wp2_with fail
  refine (szTy' t0 A01 c01 (1048576) _ (by omega) (by omega) at01.out).mono ?_
  rintro e w1 ⟨rfl, hb1⟩
  have B2 := B1.trans (hb1.mono B1.size)
  have ba02 := Lib.hid (ba01.out.below hb1 ba01.out.lt)
  have at02 := Lib.hid (at01.out.below hb1 hb1.size)
  have hcba02 := fun i => ba02.out.cell i
  by_cases hk0 : ((t0.bulk : Nat) : Int) ≤ 1048576
  rotate_left
  · have hv := szv_gt (b := t0.bulk) (left := 1048576) (by omega)
    go_wp2_with fail
    go_ret
    exact ⟨rfl, B2⟩
  have hv0 := szv_le hk0
  have hge0 : 0 ≤ 1048576 - ((t0.bulk : Nat) : Int) := by omega
  have hm0 : t0.bulk ≤ 1048576 := by omega
  go_wp2_with fail
  refine (toTy' t0 A01 c01 _ hm0 at02.out).mono ?_
  rintro e w2 ⟨D01, d01, rfl, owd0, hb2⟩
  have B3 := B2.trans (hb2.mono B2.size)
  have ba03 := Lib.hid (ba02.out.below hb2 ba02.out.lt)
  have at03 := Lib.hid (at02.out.below hb2 hb2.size)
  have df03 := Lib.hid (owd0.at.keep fun b hb => ⟨hb.2, rfl⟩)
  have hcba03 := fun i => ba03.out.cell i
  go_wp2_with fail
  refine (specFreeVars t0 D01 d01 _ hm0 df03.out).mono ?_
  rintro e w3 ⟨DOR1, dor1, rfl, owdoR, hb3⟩
  have B4 := B3.trans (hb3.mono B3.size)
  have ba04 := Lib.hid (ba03.out.below hb3 ba03.out.lt)
  have at04 := Lib.hid (at03.out.below hb3 hb3.size)
  have df04 := Lib.hid (df03.out.below hb3 hb3.size)
  have Xba0_W := Lib.hid (show w.heap.size < (w2).heap.size from ba03.out.lt)
  have WW := Lib.hid (show w.heap.size ≤ (w2).heap.size from B3.size)
  have OW4 := Lib.hid (owdoR)
  have LW4 := Lib.hid (show w3.heap.size ≤ (w3).heap.size from Nat.le_refl _)
  have hcba04 := fun i => ba04.out.cell i
  go_wp2_with fail
  refine (toTy' t0 A01 c01 _ hm0 at04.out).mono ?_
  rintro e w4 ⟨X01, x01, rfl, owx0, hb4⟩
  have B5 := B4.trans (hb4.mono B4.size)
  have OW5 := Lib.hid (OW4.out.keep (S' := Btw ((w2).heap.size) (w3.heap.size)) (w' := w4) fun b hb => ⟨hb, hb4.block b (Nat.lt_of_lt_of_le hb.2 LW4.out)⟩)
  have LW5 := Lib.hid (show w3.heap.size ≤ (w4).heap.size from Nat.le_trans LW4.out hb4.size)
  have ba05 := Lib.hid (ba04.out.below hb4 ba04.out.lt)
  have at05 := Lib.hid (at04.out.below hb4 hb4.size)
  have ZW_x0 := Lib.hid (show w3.heap.size ≤ (w3).heap.size from LW4.out)
  have Xba0_x0 := Lib.hid (show w.heap.size < (w3).heap.size from ba04.out.lt)
  have Wx0 := Lib.hid (show w.heap.size ≤ (w3).heap.size from B4.size)
  have Ox05 := Lib.hid (owx0)
  have Lx05 := Lib.hid (show w4.heap.size ≤ (w4).heap.size from Nat.le_refl _)
  have hcba05 := fun i => ba05.out.cell i
  have E6 : Below (w4).heap.size (w4) (w4.alloc (.cells #[.int .i64 t0.op, .int .i64 t0.n, .string t0.s, .slice X01 t0.kids.length x01] 36)) := (Below.refl _ _).alloc (Nat.le_refl _) _
  have B6 : Below w.heap.size w (w4.alloc (.cells #[.int .i64 t0.op, .int .i64 t0.n, .string t0.s, .slice X01 t0.kids.length x01] 36)) := B5.alloc B5.size _
  have ba06 := Lib.hid (Row.alloc ba05.out (.cells #[.int .i64 t0.op, .int .i64 t0.n, .string t0.s, .slice X01 t0.kids.length x01] 36))
  have bx06 := Lib.hid (Row.new' (w4) 36 #[.int .i64 t0.op, .int .i64 t0.n, .string t0.s, .slice X01 t0.kids.length x01] (g := w4.heap.size) rfl)
  have at06 := Lib.hid (at05.out.below E6 E6.size)
  have OW6 := Lib.hid (OW5.out.keep (S' := Btw ((w2).heap.size) (w3.heap.size)) (w' := w4.alloc (.cells #[.int .i64 t0.op, .int .i64 t0.n, .string t0.s, .slice X01 t0.kids.length x01] 36)) fun b hb => ⟨hb, Below.heap_alloc _ _ _ (Nat.lt_of_lt_of_le hb.2 LW5.out)⟩)
  have LW6 := Lib.hid (show w3.heap.size ≤ (w4.alloc (.cells #[.int .i64 t0.op, .int .i64 t0.n, .string t0.s, .slice X01 t0.kids.length x01] 36)).heap.size from Nat.le_trans LW5.out E6.size)
  have Ox06 := Lib.hid (Ox05.out.keep (S' := Btw ((w3).heap.size) (w4.heap.size)) (w' := w4.alloc (.cells #[.int .i64 t0.op, .int .i64 t0.n, .string t0.s, .slice X01 t0.kids.length x01] 36)) fun b hb => ⟨hb, Below.heap_alloc _ _ _ (Nat.lt_of_lt_of_le hb.2 Lx05.out)⟩)
  have Lx06 := Lib.hid (show w4.heap.size ≤ (w4.alloc (.cells #[.int .i64 t0.op, .int .i64 t0.n, .string t0.s, .slice X01 t0.kids.length x01] 36)).heap.size from Nat.le_trans Lx05.out E6.size)
  have YW_bx0 := Lib.hid (show w3.heap.size ≤ w4.heap.size from by have := LW5.out; simpa using this)
  have Yx0_bx0 := Lib.hid (show w4.heap.size ≤ w4.heap.size from by have := Lx05.out; simpa using this)
  have hcba06 := fun i => ba06.out.cell i
  have hcbx06 := fun i => bx06.out.cell i
  go_wp2_with fail
  refine (implFreeVars t0 X01 x01 _ hm0 (Ox06.out.at.keep fun b hb => ⟨Nat.lt_of_lt_of_le hb.2 Lx06.out, rfl⟩)).mono ?_
  rintro e w5 ⟨GR1, gr1, rfl, owgR, hb5⟩
  have B7 := B6.trans (hb5.mono B6.size)
  have OW7 := Lib.hid (OW6.out.keep (S' := Btw ((w2).heap.size) (w3.heap.size)) (w' := w5) fun b hb => ⟨hb, hb5.block b (Nat.lt_of_lt_of_le hb.2 LW6.out)⟩)
  have LW7 := Lib.hid (show w3.heap.size ≤ (w5).heap.size from Nat.le_trans LW6.out hb5.size)
  have Ox07 := Lib.hid (Ox06.out.keep (S' := Btw ((w3).heap.size) (w4.heap.size)) (w' := w5) fun b hb => ⟨hb, hb5.block b (Nat.lt_of_lt_of_le hb.2 Lx06.out)⟩)
  have Lx07 := Lib.hid (show w4.heap.size ≤ (w5).heap.size from Nat.le_trans Lx06.out hb5.size)
  have ba07 := Lib.hid (ba06.out.below hb5 ba06.out.lt)
  have bx07 := Lib.hid (bx06.out.below hb5 bx06.out.lt)
  have at07 := Lib.hid (at06.out.below hb5 hb5.size)
  have ZW_G := Lib.hid (show w3.heap.size ≤ (w4.alloc (.cells #[.int .i64 t0.op, .int .i64 t0.n, .string t0.s, .slice X01 t0.kids.length x01] 36)).heap.size from LW6.out)
  have Zx0_G := Lib.hid (show w4.heap.size ≤ (w4.alloc (.cells #[.int .i64 t0.op, .int .i64 t0.n, .string t0.s, .slice X01 t0.kids.length x01] 36)).heap.size from Lx06.out)
  have Xba0_G := Lib.hid (show w.heap.size < (w4.alloc (.cells #[.int .i64 t0.op, .int .i64 t0.n, .string t0.s, .slice X01 t0.kids.length x01] 36)).heap.size from ba06.out.lt)
  have Xbx0_G := Lib.hid (show w4.heap.size < (w4.alloc (.cells #[.int .i64 t0.op, .int .i64 t0.n, .string t0.s, .slice X01 t0.kids.length x01] 36)).heap.size from bx06.out.lt)
  have WG := Lib.hid (show w.heap.size ≤ (w4.alloc (.cells #[.int .i64 t0.op, .int .i64 t0.n, .string t0.s, .slice X01 t0.kids.length x01] 36)).heap.size from B6.size)
  have OG7 := Lib.hid (owgR)
  have LG7 := Lib.hid (show w5.heap.size ≤ (w5).heap.size from Nat.le_refl _)
  have hcba07 := fun i => ba07.out.cell i
  have hcbx07 := fun i => bx07.out.cell i
  go_wp2_with fail
  refine (eqIntS' (t0.vs []) GR1 DOR1 gr1 dor1 _ (OG7.out.sl.keep fun b hb => ⟨Nat.lt_of_lt_of_le hb.2 LG7.out, rfl⟩) (OW7.out.sl.keep fun b hb => ⟨Nat.lt_of_lt_of_le hb.2 LW7.out, rfl⟩)).mono ?_
  rintro e w6 ⟨rfl, hb6⟩
  have B8 := B7.trans (hb6.mono B7.size)
  have OW8 := Lib.hid (OW7.out.keep (S' := Btw ((w2).heap.size) (w3.heap.size)) (w' := w6) fun b hb => ⟨hb, hb6.block b (Nat.lt_of_lt_of_le hb.2 LW7.out)⟩)
  have LW8 := Lib.hid (show w3.heap.size ≤ (w6).heap.size from Nat.le_trans LW7.out hb6.size)
  have Ox08 := Lib.hid (Ox07.out.keep (S' := Btw ((w3).heap.size) (w4.heap.size)) (w' := w6) fun b hb => ⟨hb, hb6.block b (Nat.lt_of_lt_of_le hb.2 Lx07.out)⟩)
  have Lx08 := Lib.hid (show w4.heap.size ≤ (w6).heap.size from Nat.le_trans Lx07.out hb6.size)
  have OG8 := Lib.hid (OG7.out.keep (S' := Btw ((w4.alloc (.cells #[.int .i64 t0.op, .int .i64 t0.n, .string t0.s, .slice X01 t0.kids.length x01] 36)).heap.size) (w5.heap.size)) (w' := w6) fun b hb => ⟨hb, hb6.block b (Nat.lt_of_lt_of_le hb.2 LG7.out)⟩)
  have LG8 := Lib.hid (show w5.heap.size ≤ (w6).heap.size from Nat.le_trans LG7.out hb6.size)
  have ba08 := Lib.hid (ba07.out.below hb6 ba07.out.lt)
  have bx08 := Lib.hid (bx07.out.below hb6 bx07.out.lt)
  have at08 := Lib.hid (at07.out.below hb6 hb6.size)
  have hcba08 := fun i => ba08.out.cell i
  have hcbx08 := fun i => bx08.out.cell i
  go_wp2_with fail
  have B9 : Below w.heap.size w (w6).drew := B8.drew
  have ba09 : Hid (Row (w6).drew (w.heap.size) 24 #[.int .i64 t0.op, .int .i64 t0.n, .string t0.s, .slice A01 t0.kids.length c01]) := ba08
  have bx09 : Hid (Row (w6).drew (w4.heap.size) 36 #[.int .i64 t0.op, .int .i64 t0.n, .string t0.s, .slice X01 t0.kids.length x01]) := bx08
  have at09 := Lib.hid (at08.out.keep (w' := (w6).drew) (S' := Lt (w6).drew.heap.size) fun b hb => ⟨hb, rfl⟩)
  have OW9 := Lib.hid (OW8.out.keep (S' := Btw ((w2).heap.size) (w3.heap.size)) (w' := (w6).drew) fun b hb => ⟨hb, rfl⟩)
  have LW9 := Lib.hid (show w3.heap.size ≤ ((w6).drew).heap.size from Nat.le_trans LW8.out (Nat.le_refl _))
  have Ox09 := Lib.hid (Ox08.out.keep (S' := Btw ((w3).heap.size) (w4.heap.size)) (w' := (w6).drew) fun b hb => ⟨hb, rfl⟩)
  have Lx09 := Lib.hid (show w4.heap.size ≤ ((w6).drew).heap.size from Nat.le_trans Lx08.out (Nat.le_refl _))
  have OG9 := Lib.hid (OG8.out.keep (S' := Btw ((w4.alloc (.cells #[.int .i64 t0.op, .int .i64 t0.n, .string t0.s, .slice X01 t0.kids.length x01] 36)).heap.size) (w5.heap.size)) (w' := (w6).drew) fun b hb => ⟨hb, rfl⟩)
  have LG9 := Lib.hid (show w5.heap.size ≤ ((w6).drew).heap.size from Nat.le_trans LG8.out (Nat.le_refl _))
  have hcba09 := fun i => ba09.out.cell i
  have hcbx09 := fun i => bx09.out.cell i
  go_region_held3 (fun w' => (∀ i, w'.cell? ⟨w.heap.size, i, none⟩ = (#[.int .i64 t0.op, .int .i64 t0.n, .string t0.s, .slice A01 t0.kids.length c01] : Array Value)[i]?) ∧ (∀ i, w'.cell? ⟨w4.heap.size, i, none⟩ = (#[.int .i64 t0.op, .int .i64 t0.n, .string t0.s, .slice X01 t0.kids.length x01] : Array Value)[i]?)) (first | exact ⟨hcba09, hcbx09⟩ | exact ⟨hcba010, hcbx010⟩ | exact ⟨hcba011, hcbx011⟩) (first
    | (go_at_call 45
       refine (toTy' t0 A01 c01 _ hm0 at09.out).mono ?_
       rintro e w7 ⟨Y01, y01, rfl, owy0, hb7⟩
       have B10 := B9.trans (hb7.mono B9.size)
       have OW10 := Lib.hid (OW9.out.keep (S' := Btw ((w2).heap.size) (w3.heap.size)) (w' := w7) fun b hb => ⟨hb, hb7.block b (Nat.lt_of_lt_of_le hb.2 LW9.out)⟩)
       have LW10 := Lib.hid (show w3.heap.size ≤ (w7).heap.size from Nat.le_trans LW9.out hb7.size)
       have Ox010 := Lib.hid (Ox09.out.keep (S' := Btw ((w3).heap.size) (w4.heap.size)) (w' := w7) fun b hb => ⟨hb, hb7.block b (Nat.lt_of_lt_of_le hb.2 Lx09.out)⟩)
       have Lx010 := Lib.hid (show w4.heap.size ≤ (w7).heap.size from Nat.le_trans Lx09.out hb7.size)
       have OG10 := Lib.hid (OG9.out.keep (S' := Btw ((w4.alloc (.cells #[.int .i64 t0.op, .int .i64 t0.n, .string t0.s, .slice X01 t0.kids.length x01] 36)).heap.size) (w5.heap.size)) (w' := w7) fun b hb => ⟨hb, hb7.block b (Nat.lt_of_lt_of_le hb.2 LG9.out)⟩)
       have LG10 := Lib.hid (show w5.heap.size ≤ (w7).heap.size from Nat.le_trans LG9.out hb7.size)
       have ba010 := Lib.hid (ba09.out.below hb7 ba09.out.lt)
       have bx010 := Lib.hid (bx09.out.below hb7 bx09.out.lt)
       have at010 := Lib.hid (at09.out.below hb7 hb7.size)
       have yf010 := Lib.hid (owy0.at.keep fun b hb => ⟨hb.2, rfl⟩)
       have hcba010 := fun i => ba010.out.cell i
       have hcbx010 := fun i => bx010.out.cell i)
    | (go_at_call 47
       refine (eqTy' t0 X01 x01 Y01 y01 _ (Ox010.out.at.keep fun b hb => ⟨Nat.lt_of_lt_of_le hb.2 Lx010.out, rfl⟩) yf010.out).mono ?_
       rintro e w8 ⟨rfl, hb8⟩
       have B11 := B10.trans (hb8.mono B10.size)
       have OW11 := Lib.hid (OW10.out.keep (S' := Btw ((w2).heap.size) (w3.heap.size)) (w' := w8) fun b hb => ⟨hb, hb8.block b (Nat.lt_of_lt_of_le hb.2 LW10.out)⟩)
       have LW11 := Lib.hid (show w3.heap.size ≤ (w8).heap.size from Nat.le_trans LW10.out hb8.size)
       have Ox011 := Lib.hid (Ox010.out.keep (S' := Btw ((w3).heap.size) (w4.heap.size)) (w' := w8) fun b hb => ⟨hb, hb8.block b (Nat.lt_of_lt_of_le hb.2 Lx010.out)⟩)
       have Lx011 := Lib.hid (show w4.heap.size ≤ (w8).heap.size from Nat.le_trans Lx010.out hb8.size)
       have OG11 := Lib.hid (OG10.out.keep (S' := Btw ((w4.alloc (.cells #[.int .i64 t0.op, .int .i64 t0.n, .string t0.s, .slice X01 t0.kids.length x01] 36)).heap.size) (w5.heap.size)) (w' := w8) fun b hb => ⟨hb, hb8.block b (Nat.lt_of_lt_of_le hb.2 LG10.out)⟩)
       have LG11 := Lib.hid (show w5.heap.size ≤ (w8).heap.size from Nat.le_trans LG10.out hb8.size)
       have ba011 := Lib.hid (ba010.out.below hb8 ba010.out.lt)
       have bx011 := Lib.hid (bx010.out.below hb8 bx010.out.lt)
       have at011 := Lib.hid (at010.out.below hb8 hb8.size)
       have yf011 := Lib.hid (yf010.out.below hb8 hb8.size)
       have hcba011 := fun i => ba011.out.cell i
       have hcbx011 := fun i => bx011.out.cell i))
  obtain ⟨k0, hk0e⟩ : ∃ k0 : Nat, k0 = 1 := ⟨_, rfl⟩
  have hcn0 : t0.cnt0 ≤ 33554432 := by have := t0.cnt0_le; have := t0.cnt_bulk; omega
  go_wp2_with fail
  refine (markTy0 t0 X01 x01 k0 _ (Btw ((w3).heap.size) (w4.heap.size)) _ (by omega) (by omega) (by omega) (fun b hb => Nat.lt_of_lt_of_le hb.2 Lx011.out) Ox011.out).mono ?_
  rintro e w9 ⟨rfl, ho9, ht9⟩
  have B12 : Below w.heap.size w w9 := B11.trans (ht9.below (fun b hb => Nat.le_trans Wx0.out hb.1) B11.size)
  have OW12 := Lib.hid (OW11.out.keep (S' := Btw ((w2).heap.size) (w3.heap.size)) (w' := w9) fun b hb => ⟨hb, ht9.block b (Nat.lt_of_lt_of_le hb.2 LW11.out) (fun e => Nat.lt_irrefl _ (Nat.lt_of_lt_of_le hb.2 (Nat.le_trans ZW_x0.out e.1)))⟩)
  have LW12 := Lib.hid (show w3.heap.size ≤ (w9).heap.size from Nat.le_trans LW11.out ht9.size)
  have OG12 := Lib.hid (OG11.out.keep (S' := Btw ((w4.alloc (.cells #[.int .i64 t0.op, .int .i64 t0.n, .string t0.s, .slice X01 t0.kids.length x01] 36)).heap.size) (w5.heap.size)) (w' := w9) fun b hb => ⟨hb, ht9.block b (Nat.lt_of_lt_of_le hb.2 LG11.out) (fun e => Nat.lt_irrefl _ (Nat.lt_of_lt_of_le e.2 (Nat.le_trans Zx0_G.out hb.1)))⟩)
  have LG12 := Lib.hid (show w5.heap.size ≤ (w9).heap.size from Nat.le_trans LG11.out ht9.size)
  have ba012 : Hid (Row w9 (w.heap.size) 24 #[.int .i64 t0.op, .int .i64 t0.n, .string t0.s, .slice A01 t0.kids.length c01]) := Lib.hid ((ht9.block (w.heap.size) ba011.out.lt (fun e => Nat.lt_irrefl _ (Nat.lt_of_lt_of_le Xba0_x0.out e.1))).trans ba011.out)
  have bx012 : Hid (Row w9 (w4.heap.size) 36 #[.int .i64 t0.op, .int .i64 t0.n, .string t0.s, .slice X01 t0.kids.length x01]) := Lib.hid ((ht9.block (w4.heap.size) bx011.out.lt (fun e => Nat.lt_irrefl _ (Nat.lt_of_lt_of_le e.2 Yx0_bx0.out))).trans bx011.out)
  have at012 := Lib.hid (at00.out.below B12 B12.size)
  have hcba012 := fun i => ba012.out.cell i
  have hcbx012 := fun i => bx012.out.cell i
  obtain ⟨k1, hk1e⟩ : ∃ k1 : Nat, k1 = k0 + t0.cnt0 := ⟨_, rfl⟩
  rw [← hk1e]
  go_wp2_with fail
  refine (eqIntS' (t0.vs []) GR1 DOR1 gr1 dor1 _ (OG12.out.sl.keep fun b hb => ⟨Nat.lt_of_lt_of_le hb.2 LG12.out, rfl⟩) (OW12.out.sl.keep fun b hb => ⟨Nat.lt_of_lt_of_le hb.2 LW12.out, rfl⟩)).mono ?_
  rintro e w10 ⟨rfl, hb10⟩
  have B13 := B12.trans (hb10.mono B12.size)
  have OW13 := Lib.hid (OW12.out.keep (S' := Btw ((w2).heap.size) (w3.heap.size)) (w' := w10) fun b hb => ⟨hb, hb10.block b (Nat.lt_of_lt_of_le hb.2 LW12.out)⟩)
  have LW13 := Lib.hid (show w3.heap.size ≤ (w10).heap.size from Nat.le_trans LW12.out hb10.size)
  have OG13 := Lib.hid (OG12.out.keep (S' := Btw ((w4.alloc (.cells #[.int .i64 t0.op, .int .i64 t0.n, .string t0.s, .slice X01 t0.kids.length x01] 36)).heap.size) (w5.heap.size)) (w' := w10) fun b hb => ⟨hb, hb10.block b (Nat.lt_of_lt_of_le hb.2 LG12.out)⟩)
  have LG13 := Lib.hid (show w5.heap.size ≤ (w10).heap.size from Nat.le_trans LG12.out hb10.size)
  have ba013 := Lib.hid (ba012.out.below hb10 ba012.out.lt)
  have bx013 := Lib.hid (bx012.out.below hb10 bx012.out.lt)
  have at013 := Lib.hid (at012.out.below hb10 hb10.size)
  have hcba013 := fun i => ba013.out.cell i
  have hcbx013 := fun i => bx013.out.cell i
  have hcr : cntL cnI (t0.vs []) ≤ 2305843009213693952 := by rw [cntL_int]; have := t0.vs_len []; simp at this; omega
  go_wp2_with fail
  refine (markIntSI (t0.vs []) GR1 gr1 k0 _ (Btw ((w4.alloc (.cells #[.int .i64 t0.op, .int .i64 t0.n, .string t0.s, .slice X01 t0.kids.length x01] 36)).heap.size) (w5.heap.size)) _ (by omega) (by omega) OG13.out).mono ?_
  rintro e w11 ⟨rfl, ho11, ht11⟩
  have B14 : Below w.heap.size w w11 := B13.trans (ht11.below (fun b hb => Nat.le_trans WG.out hb.1) B13.size)
  have OW14 := Lib.hid (OW13.out.keep (S' := Btw ((w2).heap.size) (w3.heap.size)) (w' := w11) fun b hb => ⟨hb, ht11.block b (Nat.lt_of_lt_of_le hb.2 LW13.out) (fun e => Nat.lt_irrefl _ (Nat.lt_of_lt_of_le hb.2 (Nat.le_trans ZW_G.out e.1)))⟩)
  have LW14 := Lib.hid (show w3.heap.size ≤ (w11).heap.size from Nat.le_trans LW13.out ht11.size)
  have ba014 : Hid (Row w11 (w.heap.size) 24 #[.int .i64 t0.op, .int .i64 t0.n, .string t0.s, .slice A01 t0.kids.length c01]) := Lib.hid ((ht11.block (w.heap.size) ba013.out.lt (fun e => Nat.lt_irrefl _ (Nat.lt_of_lt_of_le Xba0_G.out e.1))).trans ba013.out)
  have bx014 : Hid (Row w11 (w4.heap.size) 36 #[.int .i64 t0.op, .int .i64 t0.n, .string t0.s, .slice X01 t0.kids.length x01]) := Lib.hid ((ht11.block (w4.heap.size) bx013.out.lt (fun e => Nat.lt_irrefl _ (Nat.lt_of_lt_of_le Xbx0_G.out e.1))).trans bx013.out)
  have at014 := Lib.hid (at00.out.below B14 B14.size)
  have OG14 := Lib.hid ho11
  have LG14 := Lib.hid (show w5.heap.size ≤ (w11).heap.size from Nat.le_trans LG13.out ht11.size)
  have hcba014 := fun i => ba014.out.cell i
  have hcbx014 := fun i => bx014.out.cell i
  obtain ⟨km, hkm⟩ : ∃ km : Nat, km = k0 + cntL cnI (t0.vs []) := ⟨_, rfl⟩
  rw [← hkm]
  go_wp2_with fail
  refine (heldIntSI (t0.vs []) GR1 gr1 k0 _ _ (by omega) (by omega) (OG14.out.sl.keep fun b hb => ⟨Nat.lt_of_lt_of_le hb.2 LG14.out, rfl⟩)).mono ?_
  rintro e w12 ⟨rfl, hb12⟩
  have B15 := B14.trans (hb12.mono B14.size)
  have OW15 := Lib.hid (OW14.out.keep (S' := Btw ((w2).heap.size) (w3.heap.size)) (w' := w12) fun b hb => ⟨hb, hb12.block b (Nat.lt_of_lt_of_le hb.2 LW14.out)⟩)
  have LW15 := Lib.hid (show w3.heap.size ≤ (w12).heap.size from Nat.le_trans LW14.out hb12.size)
  have OG15 := Lib.hid (OG14.out.keep (S' := Btw ((w4.alloc (.cells #[.int .i64 t0.op, .int .i64 t0.n, .string t0.s, .slice X01 t0.kids.length x01] 36)).heap.size) (w5.heap.size)) (w' := w12) fun b hb => ⟨hb, hb12.block b (Nat.lt_of_lt_of_le hb.2 LG14.out)⟩)
  have LG15 := Lib.hid (show w5.heap.size ≤ (w12).heap.size from Nat.le_trans LG14.out hb12.size)
  have ba015 := Lib.hid (ba014.out.below hb12 ba014.out.lt)
  have bx015 := Lib.hid (bx014.out.below hb12 bx014.out.lt)
  have at015 := Lib.hid (at014.out.below hb12 hb12.size)
  have hcba015 := fun i => ba015.out.cell i
  have hcbx015 := fun i => bx015.out.cell i
  rw [← hkm]
  go_wp2_with fail
  refine (toTy' t0 A01 c01 _ hm0 at015.out).mono ?_
  rintro e w13 ⟨Z01, z01, rfl, owz0, hb13⟩
  have B16 := B15.trans (hb13.mono B15.size)
  have OW16 := Lib.hid (OW15.out.keep (S' := Btw ((w2).heap.size) (w3.heap.size)) (w' := w13) fun b hb => ⟨hb, hb13.block b (Nat.lt_of_lt_of_le hb.2 LW15.out)⟩)
  have LW16 := Lib.hid (show w3.heap.size ≤ (w13).heap.size from Nat.le_trans LW15.out hb13.size)
  have OG16 := Lib.hid (OG15.out.keep (S' := Btw ((w4.alloc (.cells #[.int .i64 t0.op, .int .i64 t0.n, .string t0.s, .slice X01 t0.kids.length x01] 36)).heap.size) (w5.heap.size)) (w' := w13) fun b hb => ⟨hb, hb13.block b (Nat.lt_of_lt_of_le hb.2 LG15.out)⟩)
  have LG16 := Lib.hid (show w5.heap.size ≤ (w13).heap.size from Nat.le_trans LG15.out hb13.size)
  have ba016 := Lib.hid (ba015.out.below hb13 ba015.out.lt)
  have bx016 := Lib.hid (bx015.out.below hb13 bx015.out.lt)
  have at016 := Lib.hid (at015.out.below hb13 hb13.size)
  have zf016 := Lib.hid (owz0.at.keep fun b hb => ⟨hb.2, rfl⟩)
  have hcba016 := fun i => ba016.out.cell i
  have hcbx016 := fun i => bx016.out.cell i
  go_wp2_with fail
  refine (implFreeVars t0 Z01 z01 _ hm0 zf016.out).mono ?_
  rintro e w14 ⟨ZOR1, zor1, rfl, owzoR, hb14⟩
  have B17 := B16.trans (hb14.mono B16.size)
  have OW17 := Lib.hid (OW16.out.keep (S' := Btw ((w2).heap.size) (w3.heap.size)) (w' := w14) fun b hb => ⟨hb, hb14.block b (Nat.lt_of_lt_of_le hb.2 LW16.out)⟩)
  have LW17 := Lib.hid (show w3.heap.size ≤ (w14).heap.size from Nat.le_trans LW16.out hb14.size)
  have OG17 := Lib.hid (OG16.out.keep (S' := Btw ((w4.alloc (.cells #[.int .i64 t0.op, .int .i64 t0.n, .string t0.s, .slice X01 t0.kids.length x01] 36)).heap.size) (w5.heap.size)) (w' := w14) fun b hb => ⟨hb, hb14.block b (Nat.lt_of_lt_of_le hb.2 LG16.out)⟩)
  have LG17 := Lib.hid (show w5.heap.size ≤ (w14).heap.size from Nat.le_trans LG16.out hb14.size)
  have ba017 := Lib.hid (ba016.out.below hb14 ba016.out.lt)
  have bx017 := Lib.hid (bx016.out.below hb14 bx016.out.lt)
  have at017 := Lib.hid (at016.out.below hb14 hb14.size)
  have zf017 := Lib.hid (zf016.out.below hb14 hb14.size)
  have ZW_H := Lib.hid (show w3.heap.size ≤ (w13).heap.size from LW16.out)
  have ZG_H := Lib.hid (show w5.heap.size ≤ (w13).heap.size from LG16.out)
  have Xba0_H := Lib.hid (show w.heap.size < (w13).heap.size from ba016.out.lt)
  have Xbx0_H := Lib.hid (show w4.heap.size < (w13).heap.size from bx016.out.lt)
  have WH := Lib.hid (show w.heap.size ≤ (w13).heap.size from B16.size)
  have OH17 := Lib.hid (owzoR)
  have LH17 := Lib.hid (show w14.heap.size ≤ (w14).heap.size from Nat.le_refl _)
  have hcba017 := fun i => ba017.out.cell i
  have hcbx017 := fun i => bx017.out.cell i
  go_wp2_with fail
  refine (eqIntS' (t0.vs []) ZOR1 DOR1 zor1 dor1 _ (OH17.out.sl.keep fun b hb => ⟨Nat.lt_of_lt_of_le hb.2 LH17.out, rfl⟩) (OW17.out.sl.keep fun b hb => ⟨Nat.lt_of_lt_of_le hb.2 LW17.out, rfl⟩)).mono ?_
  rintro e w15 ⟨rfl, hb15⟩
  have B18 := B17.trans (hb15.mono B17.size)
  have OW18 := Lib.hid (OW17.out.keep (S' := Btw ((w2).heap.size) (w3.heap.size)) (w' := w15) fun b hb => ⟨hb, hb15.block b (Nat.lt_of_lt_of_le hb.2 LW17.out)⟩)
  have LW18 := Lib.hid (show w3.heap.size ≤ (w15).heap.size from Nat.le_trans LW17.out hb15.size)
  have OG18 := Lib.hid (OG17.out.keep (S' := Btw ((w4.alloc (.cells #[.int .i64 t0.op, .int .i64 t0.n, .string t0.s, .slice X01 t0.kids.length x01] 36)).heap.size) (w5.heap.size)) (w' := w15) fun b hb => ⟨hb, hb15.block b (Nat.lt_of_lt_of_le hb.2 LG17.out)⟩)
  have LG18 := Lib.hid (show w5.heap.size ≤ (w15).heap.size from Nat.le_trans LG17.out hb15.size)
  have OH18 := Lib.hid (OH17.out.keep (S' := Btw ((w13).heap.size) (w14.heap.size)) (w' := w15) fun b hb => ⟨hb, hb15.block b (Nat.lt_of_lt_of_le hb.2 LH17.out)⟩)
  have LH18 := Lib.hid (show w14.heap.size ≤ (w15).heap.size from Nat.le_trans LH17.out hb15.size)
  have ba018 := Lib.hid (ba017.out.below hb15 ba017.out.lt)
  have bx018 := Lib.hid (bx017.out.below hb15 bx017.out.lt)
  have at018 := Lib.hid (at017.out.below hb15 hb15.size)
  have hcba018 := fun i => ba018.out.cell i
  have hcbx018 := fun i => bx018.out.cell i
  go_wp2_with fail
  refine (heldIntSI (t0.vs []) GR1 gr1 k0 _ _ (by omega) (by omega) (OG18.out.sl.keep fun b hb => ⟨Nat.lt_of_lt_of_le hb.2 LG18.out, rfl⟩)).mono ?_
  rintro e w16 ⟨rfl, hb16⟩
  have B19 := B18.trans (hb16.mono B18.size)
  have OW19 := Lib.hid (OW18.out.keep (S' := Btw ((w2).heap.size) (w3.heap.size)) (w' := w16) fun b hb => ⟨hb, hb16.block b (Nat.lt_of_lt_of_le hb.2 LW18.out)⟩)
  have LW19 := Lib.hid (show w3.heap.size ≤ (w16).heap.size from Nat.le_trans LW18.out hb16.size)
  have OG19 := Lib.hid (OG18.out.keep (S' := Btw ((w4.alloc (.cells #[.int .i64 t0.op, .int .i64 t0.n, .string t0.s, .slice X01 t0.kids.length x01] 36)).heap.size) (w5.heap.size)) (w' := w16) fun b hb => ⟨hb, hb16.block b (Nat.lt_of_lt_of_le hb.2 LG18.out)⟩)
  have LG19 := Lib.hid (show w5.heap.size ≤ (w16).heap.size from Nat.le_trans LG18.out hb16.size)
  have OH19 := Lib.hid (OH18.out.keep (S' := Btw ((w13).heap.size) (w14.heap.size)) (w' := w16) fun b hb => ⟨hb, hb16.block b (Nat.lt_of_lt_of_le hb.2 LH18.out)⟩)
  have LH19 := Lib.hid (show w14.heap.size ≤ (w16).heap.size from Nat.le_trans LH18.out hb16.size)
  have ba019 := Lib.hid (ba018.out.below hb16 ba018.out.lt)
  have bx019 := Lib.hid (bx018.out.below hb16 bx018.out.lt)
  have at019 := Lib.hid (at018.out.below hb16 hb16.size)
  have hcba019 := fun i => ba019.out.cell i
  have hcbx019 := fun i => bx019.out.cell i
  rw [← hkm]
  go_wp2_with fail
  go_ret
  exact ⟨rfl, B19⟩
end Go.Proofs.Ytjcgfbjdailgoaa
