/- The walk of the law FnExactGeneric. Conditions: none. -/
import Derived.Test.YtjcgfbjdailgoaaGeneric
import Derived.Test.YtjcgfbjdailgoaaAScheme
import Derived.Test.YtjcgfbjdailgoaaMScheme
import Derived.Test.YtjcgfbjdailgoaaATy
import Derived.Test.YtjcgfbjdailgoaaMTy
import Derived.Test.YtjcgfbjdailgoaaInt
import Derived.Deep.RegionHeld3
import Derived.Deep.RegionLaw
import Derived.Deep.CutRange
namespace Go.Proofs.Ytjcgfbjdailgoaa
open Go.RowKit
set_option linter.unusedVariables false
set_option linter.unusedSimpArgs false
set_option linter.unnecessarySimpa false
set_option maxHeartbeats 4000000

set_option maxRecDepth 20000 in
theorem walkExactGeneric (t0 : List GScheme) (A0 : Option Addr) (c0 : Nat) (t1 : GTy) (A11 : Option Addr) (c11 : Nat) (w : World) (hat0 : Sl w (Lt w.heap.size) 5 A0 c0 (t0.map GScheme.toD)) (hat1 : GTy.At w (Lt w.heap.size) A11 c11 t1) :
    Calls Try.prog 13 #[.slice A0 t0.length c0, .agg #[.int .i64 t1.op, .int .i64 t1.n, .string t1.s, .slice A11 t1.kids.length c11]] w fun e w' => e = .returned (.bool true) ∧ Below w.heap.size w w' := by
  have B0 : Below w.heap.size w w := Below.refl _ _
  have at00 := Lib.hid hat0
  have at10 := Lib.hid hat1
  clear hat0
  clear hat1
  have E1 : Below (w).heap.size (w) (w.alloc (.cells #[.int .i64 t1.op, .int .i64 t1.n, .string t1.s, .slice A11 t1.kids.length c11] 24)) := (Below.refl _ _).alloc (Nat.le_refl _) _
  have B1 : Below w.heap.size w (w.alloc (.cells #[.int .i64 t1.op, .int .i64 t1.n, .string t1.s, .slice A11 t1.kids.length c11] 24)) := B0.alloc B0.size _
  have ba11 := Lib.hid (Row.new' (w) 24 #[.int .i64 t1.op, .int .i64 t1.n, .string t1.s, .slice A11 t1.kids.length c11] (g := w.heap.size) rfl)
  have at01 := Lib.hid (at00.out.below E1 E1.size)
  have at11 := Lib.hid (at10.out.below E1 E1.size)
  go_enter Try.func13, Try.ntmps13
  go_wp2_with fail
  refine (szSchemeS' t0 A0 c0 (1048576) _ at01.out (by omega) (by omega)).mono ?_
  rintro e w1 ⟨rfl, hb1⟩
  have B2 := B1.trans (hb1.mono B1.size)
  have ba12 := Lib.hid (ba11.out.below hb1 ba11.out.lt)
  have at02 := Lib.hid (at01.out.below hb1 hb1.size)
  have at12 := Lib.hid (at11.out.below hb1 hb1.size)
  have hcba12 := fun i => ba12.out.cell i
  by_cases hk0 : ((bulkL GScheme.bulk t0 : Nat) : Int) ≤ 1048576
  rotate_left
  · have hv := szv_gt (b := bulkL GScheme.bulk t0) (left := 1048576) (by omega)
    go_wp2_with fail
    go_ret
    exact ⟨rfl, B2⟩
  have hv0 := szv_le hk0
  have hge0 : 0 ≤ 1048576 - ((bulkL GScheme.bulk t0 : Nat) : Int) := by omega
  have hm0 : bulkL GScheme.bulk t0 ≤ 1048576 := by omega
  go_wp2_with fail
  refine (szTy' t1 A11 c11 (1048576 - ((bulkL GScheme.bulk t0 : Nat) : Int)) _ (by omega) (by omega) at12.out).mono ?_
  rintro e w2 ⟨rfl, hb2⟩
  have B3 := B2.trans (hb2.mono B2.size)
  have ba13 := Lib.hid (ba12.out.below hb2 ba12.out.lt)
  have at03 := Lib.hid (at02.out.below hb2 hb2.size)
  have at13 := Lib.hid (at12.out.below hb2 hb2.size)
  have hcba13 := fun i => ba13.out.cell i
  by_cases hk1 : ((t1.bulk : Nat) : Int) ≤ 1048576 - ((bulkL GScheme.bulk t0 : Nat) : Int)
  rotate_left
  · have hv := szv_gt (b := t1.bulk) (left := 1048576 - ((bulkL GScheme.bulk t0 : Nat) : Int)) (by omega)
    go_wp2_with fail
    go_ret
    exact ⟨rfl, B3⟩
  have hv1 := szv_le hk1
  have hge1 : 0 ≤ 1048576 - ((bulkL GScheme.bulk t0 : Nat) : Int) - ((t1.bulk : Nat) : Int) := by omega
  have hm1 : t1.bulk ≤ 1048576 := by omega
  go_wp2_with fail
  have B4 : Below w.heap.size w (w2).drew := B3.drew
  have ba14 : Hid (Row (w2).drew (w.heap.size) 24 #[.int .i64 t1.op, .int .i64 t1.n, .string t1.s, .slice A11 t1.kids.length c11]) := ba13
  have at04 := Lib.hid (at03.out.keep (w' := (w2).drew) (S' := Lt (w2).drew.heap.size) fun b hb => ⟨hb, rfl⟩)
  have at14 := Lib.hid (at13.out.keep (w' := (w2).drew) (S' := Lt (w2).drew.heap.size) fun b hb => ⟨hb, rfl⟩)
  have hcba14 := fun i => ba14.out.cell i
  go_region_held3 (fun w' => (∀ i, w'.cell? ⟨w.heap.size, i, none⟩ = (#[.int .i64 t1.op, .int .i64 t1.n, .string t1.s, .slice A11 t1.kids.length c11] : Array Value)[i]?)) (first | exact hcba14 | exact hcba15 | exact hcba16 | exact hcba17) (first
    | (go_at_call 73
       refine (toSchemeS' t0 A0 c0 _ at04.out hm0).mono ?_
       rintro e w3 ⟨D01, d01, rfl, owd0, hb3⟩
       have B5 := B4.trans (hb3.mono B4.size)
       have ba15 := Lib.hid (ba14.out.below hb3 ba14.out.lt)
       have at05 := Lib.hid (at04.out.below hb3 hb3.size)
       have at15 := Lib.hid (at14.out.below hb3 hb3.size)
       have df05 := Lib.hid (owd0.slLt)
       have hcba15 := fun i => ba15.out.cell i)
    | (go_at_call_of 45 t1
       refine (toTy' t1 A11 c11 _ hm1 at15.out).mono ?_
       rintro e w4 ⟨D11, d11, rfl, owd1, hb4⟩
       have B6 := B5.trans (hb4.mono B5.size)
       have ba16 := Lib.hid (ba15.out.below hb4 ba15.out.lt)
       have at06 := Lib.hid (at05.out.below hb4 hb4.size)
       have at16 := Lib.hid (at15.out.below hb4 hb4.size)
       have df06 := Lib.hid (df05.out.below hb4 hb4.size)
       have df16 := Lib.hid (owd1.at.keep fun b hb => ⟨hb.2, rfl⟩)
       have hcba16 := fun i => ba16.out.cell i)
    | (go_at_call 72
       refine (specGeneric t0 D01 d01 t1 D11 d11 _ hm0 hm1 df06.out df16.out).mono ?_
       rintro e w5 ⟨DOR1, dor1, rfl, owdoR, hb5⟩
       have B7 := B6.trans (hb5.mono B6.size)
       have ba17 := Lib.hid (ba16.out.below hb5 ba16.out.lt)
       have at07 := Lib.hid (at06.out.below hb5 hb5.size)
       have at17 := Lib.hid (at16.out.below hb5 hb5.size)
       have df07 := Lib.hid (df06.out.below hb5 hb5.size)
       have df17 := Lib.hid (df16.out.below hb5 hb5.size)
       have Xba1_W := Lib.hid (show w.heap.size < (w4).heap.size from ba16.out.lt)
       have WW := Lib.hid (show w.heap.size ≤ (w4).heap.size from B6.size)
       have OW7 := Lib.hid (owdoR)
       have LW7 := Lib.hid (show w5.heap.size ≤ (w5).heap.size from Nat.le_refl _)
       have hcba17 := fun i => ba17.out.cell i))
  go_wp2_with fail
  refine (toSchemeS' t0 A0 c0 _ at07.out hm0).mono ?_
  rintro e w6 ⟨X01, x01, rfl, owx0, hb6⟩
  have B8 := B7.trans (hb6.mono B7.size)
  have OW8 := Lib.hid (OW7.out.keep (S' := Btw ((w4).heap.size) (w5.heap.size)) (w' := w6) fun b hb => ⟨hb, hb6.block b (Nat.lt_of_lt_of_le hb.2 LW7.out)⟩)
  have LW8 := Lib.hid (show w5.heap.size ≤ (w6).heap.size from Nat.le_trans LW7.out hb6.size)
  have ba18 := Lib.hid (ba17.out.below hb6 ba17.out.lt)
  have at08 := Lib.hid (at07.out.below hb6 hb6.size)
  have at18 := Lib.hid (at17.out.below hb6 hb6.size)
  have ZW_x0 := Lib.hid (show w5.heap.size ≤ (w5).heap.size from LW7.out)
  have Xba1_x0 := Lib.hid (show w.heap.size < (w5).heap.size from ba17.out.lt)
  have Wx0 := Lib.hid (show w.heap.size ≤ (w5).heap.size from B7.size)
  have Ox08 := Lib.hid (owx0)
  have Lx08 := Lib.hid (show w6.heap.size ≤ (w6).heap.size from Nat.le_refl _)
  have hcba18 := fun i => ba18.out.cell i
  go_wp2_with fail
  refine (toTy' t1 A11 c11 _ hm1 at18.out).mono ?_
  rintro e w7 ⟨X11, x11, rfl, owx1, hb7⟩
  have B9 := B8.trans (hb7.mono B8.size)
  have OW9 := Lib.hid (OW8.out.keep (S' := Btw ((w4).heap.size) (w5.heap.size)) (w' := w7) fun b hb => ⟨hb, hb7.block b (Nat.lt_of_lt_of_le hb.2 LW8.out)⟩)
  have LW9 := Lib.hid (show w5.heap.size ≤ (w7).heap.size from Nat.le_trans LW8.out hb7.size)
  have Ox09 := Lib.hid (Ox08.out.keep (S' := Btw ((w5).heap.size) (w6.heap.size)) (w' := w7) fun b hb => ⟨hb, hb7.block b (Nat.lt_of_lt_of_le hb.2 Lx08.out)⟩)
  have Lx09 := Lib.hid (show w6.heap.size ≤ (w7).heap.size from Nat.le_trans Lx08.out hb7.size)
  have ba19 := Lib.hid (ba18.out.below hb7 ba18.out.lt)
  have at09 := Lib.hid (at08.out.below hb7 hb7.size)
  have at19 := Lib.hid (at18.out.below hb7 hb7.size)
  have ZW_x1 := Lib.hid (show w5.heap.size ≤ (w6).heap.size from LW8.out)
  have Zx0_x1 := Lib.hid (show w6.heap.size ≤ (w6).heap.size from Lx08.out)
  have Xba1_x1 := Lib.hid (show w.heap.size < (w6).heap.size from ba18.out.lt)
  have Wx1 := Lib.hid (show w.heap.size ≤ (w6).heap.size from B8.size)
  have Ox19 := Lib.hid (owx1)
  have Lx19 := Lib.hid (show w7.heap.size ≤ (w7).heap.size from Nat.le_refl _)
  have hcba19 := fun i => ba19.out.cell i
  have E10 : Below (w7).heap.size (w7) (w7.alloc (.cells #[.int .i64 t1.op, .int .i64 t1.n, .string t1.s, .slice X11 t1.kids.length x11] 36)) := (Below.refl _ _).alloc (Nat.le_refl _) _
  have B10 : Below w.heap.size w (w7.alloc (.cells #[.int .i64 t1.op, .int .i64 t1.n, .string t1.s, .slice X11 t1.kids.length x11] 36)) := B9.alloc B9.size _
  have ba110 := Lib.hid (Row.alloc ba19.out (.cells #[.int .i64 t1.op, .int .i64 t1.n, .string t1.s, .slice X11 t1.kids.length x11] 36))
  have bx110 := Lib.hid (Row.new' (w7) 36 #[.int .i64 t1.op, .int .i64 t1.n, .string t1.s, .slice X11 t1.kids.length x11] (g := w7.heap.size) rfl)
  have at010 := Lib.hid (at09.out.below E10 E10.size)
  have at110 := Lib.hid (at19.out.below E10 E10.size)
  have OW10 := Lib.hid (OW9.out.keep (S' := Btw ((w4).heap.size) (w5.heap.size)) (w' := w7.alloc (.cells #[.int .i64 t1.op, .int .i64 t1.n, .string t1.s, .slice X11 t1.kids.length x11] 36)) fun b hb => ⟨hb, Below.heap_alloc _ _ _ (Nat.lt_of_lt_of_le hb.2 LW9.out)⟩)
  have LW10 := Lib.hid (show w5.heap.size ≤ (w7.alloc (.cells #[.int .i64 t1.op, .int .i64 t1.n, .string t1.s, .slice X11 t1.kids.length x11] 36)).heap.size from Nat.le_trans LW9.out E10.size)
  have Ox010 := Lib.hid (Ox09.out.keep (S' := Btw ((w5).heap.size) (w6.heap.size)) (w' := w7.alloc (.cells #[.int .i64 t1.op, .int .i64 t1.n, .string t1.s, .slice X11 t1.kids.length x11] 36)) fun b hb => ⟨hb, Below.heap_alloc _ _ _ (Nat.lt_of_lt_of_le hb.2 Lx09.out)⟩)
  have Lx010 := Lib.hid (show w6.heap.size ≤ (w7.alloc (.cells #[.int .i64 t1.op, .int .i64 t1.n, .string t1.s, .slice X11 t1.kids.length x11] 36)).heap.size from Nat.le_trans Lx09.out E10.size)
  have Ox110 := Lib.hid (Ox19.out.keep (S' := Btw ((w6).heap.size) (w7.heap.size)) (w' := w7.alloc (.cells #[.int .i64 t1.op, .int .i64 t1.n, .string t1.s, .slice X11 t1.kids.length x11] 36)) fun b hb => ⟨hb, Below.heap_alloc _ _ _ (Nat.lt_of_lt_of_le hb.2 Lx19.out)⟩)
  have Lx110 := Lib.hid (show w7.heap.size ≤ (w7.alloc (.cells #[.int .i64 t1.op, .int .i64 t1.n, .string t1.s, .slice X11 t1.kids.length x11] 36)).heap.size from Nat.le_trans Lx19.out E10.size)
  have YW_bx1 := Lib.hid (show w5.heap.size ≤ w7.heap.size from by have := LW9.out; simpa using this)
  have Yx0_bx1 := Lib.hid (show w6.heap.size ≤ w7.heap.size from by have := Lx09.out; simpa using this)
  have Yx1_bx1 := Lib.hid (show w7.heap.size ≤ w7.heap.size from by have := Lx19.out; simpa using this)
  have hcba110 := fun i => ba110.out.cell i
  have hcbx110 := fun i => bx110.out.cell i
  go_wp2_with fail
  refine (implGeneric t0 X01 x01 t1 X11 x11 _ hm0 hm1 (Ox010.out.sl.keep fun b hb => ⟨Nat.lt_of_lt_of_le hb.2 Lx010.out, rfl⟩) (Ox110.out.at.keep fun b hb => ⟨Nat.lt_of_lt_of_le hb.2 Lx110.out, rfl⟩)).mono ?_
  rintro e w8 ⟨GR1, gr1, rfl, owgR, hb8⟩
  have B11 := B10.trans (hb8.mono B10.size)
  have OW11 := Lib.hid (OW10.out.keep (S' := Btw ((w4).heap.size) (w5.heap.size)) (w' := w8) fun b hb => ⟨hb, hb8.block b (Nat.lt_of_lt_of_le hb.2 LW10.out)⟩)
  have LW11 := Lib.hid (show w5.heap.size ≤ (w8).heap.size from Nat.le_trans LW10.out hb8.size)
  have Ox011 := Lib.hid (Ox010.out.keep (S' := Btw ((w5).heap.size) (w6.heap.size)) (w' := w8) fun b hb => ⟨hb, hb8.block b (Nat.lt_of_lt_of_le hb.2 Lx010.out)⟩)
  have Lx011 := Lib.hid (show w6.heap.size ≤ (w8).heap.size from Nat.le_trans Lx010.out hb8.size)
  have Ox111 := Lib.hid (Ox110.out.keep (S' := Btw ((w6).heap.size) (w7.heap.size)) (w' := w8) fun b hb => ⟨hb, hb8.block b (Nat.lt_of_lt_of_le hb.2 Lx110.out)⟩)
  have Lx111 := Lib.hid (show w7.heap.size ≤ (w8).heap.size from Nat.le_trans Lx110.out hb8.size)
  have ba111 := Lib.hid (ba110.out.below hb8 ba110.out.lt)
  have bx111 := Lib.hid (bx110.out.below hb8 bx110.out.lt)
  have at011 := Lib.hid (at010.out.below hb8 hb8.size)
  have at111 := Lib.hid (at110.out.below hb8 hb8.size)
  have ZW_G := Lib.hid (show w5.heap.size ≤ (w7.alloc (.cells #[.int .i64 t1.op, .int .i64 t1.n, .string t1.s, .slice X11 t1.kids.length x11] 36)).heap.size from LW10.out)
  have Zx0_G := Lib.hid (show w6.heap.size ≤ (w7.alloc (.cells #[.int .i64 t1.op, .int .i64 t1.n, .string t1.s, .slice X11 t1.kids.length x11] 36)).heap.size from Lx010.out)
  have Zx1_G := Lib.hid (show w7.heap.size ≤ (w7.alloc (.cells #[.int .i64 t1.op, .int .i64 t1.n, .string t1.s, .slice X11 t1.kids.length x11] 36)).heap.size from Lx110.out)
  have Xba1_G := Lib.hid (show w.heap.size < (w7.alloc (.cells #[.int .i64 t1.op, .int .i64 t1.n, .string t1.s, .slice X11 t1.kids.length x11] 36)).heap.size from ba110.out.lt)
  have Xbx1_G := Lib.hid (show w7.heap.size < (w7.alloc (.cells #[.int .i64 t1.op, .int .i64 t1.n, .string t1.s, .slice X11 t1.kids.length x11] 36)).heap.size from bx110.out.lt)
  have WG := Lib.hid (show w.heap.size ≤ (w7.alloc (.cells #[.int .i64 t1.op, .int .i64 t1.n, .string t1.s, .slice X11 t1.kids.length x11] 36)).heap.size from B10.size)
  have OG11 := Lib.hid (owgR)
  have LG11 := Lib.hid (show w8.heap.size ≤ (w8).heap.size from Nat.le_refl _)
  have hcba111 := fun i => ba111.out.cell i
  have hcbx111 := fun i => bx111.out.cell i
  go_wp2_with fail
  refine (eqIntS' (genV t0 t1) GR1 DOR1 gr1 dor1 _ (OG11.out.sl.keep fun b hb => ⟨Nat.lt_of_lt_of_le hb.2 LG11.out, rfl⟩) (OW11.out.sl.keep fun b hb => ⟨Nat.lt_of_lt_of_le hb.2 LW11.out, rfl⟩)).mono ?_
  rintro e w9 ⟨rfl, hb9⟩
  have B12 := B11.trans (hb9.mono B11.size)
  have OW12 := Lib.hid (OW11.out.keep (S' := Btw ((w4).heap.size) (w5.heap.size)) (w' := w9) fun b hb => ⟨hb, hb9.block b (Nat.lt_of_lt_of_le hb.2 LW11.out)⟩)
  have LW12 := Lib.hid (show w5.heap.size ≤ (w9).heap.size from Nat.le_trans LW11.out hb9.size)
  have Ox012 := Lib.hid (Ox011.out.keep (S' := Btw ((w5).heap.size) (w6.heap.size)) (w' := w9) fun b hb => ⟨hb, hb9.block b (Nat.lt_of_lt_of_le hb.2 Lx011.out)⟩)
  have Lx012 := Lib.hid (show w6.heap.size ≤ (w9).heap.size from Nat.le_trans Lx011.out hb9.size)
  have Ox112 := Lib.hid (Ox111.out.keep (S' := Btw ((w6).heap.size) (w7.heap.size)) (w' := w9) fun b hb => ⟨hb, hb9.block b (Nat.lt_of_lt_of_le hb.2 Lx111.out)⟩)
  have Lx112 := Lib.hid (show w7.heap.size ≤ (w9).heap.size from Nat.le_trans Lx111.out hb9.size)
  have OG12 := Lib.hid (OG11.out.keep (S' := Btw ((w7.alloc (.cells #[.int .i64 t1.op, .int .i64 t1.n, .string t1.s, .slice X11 t1.kids.length x11] 36)).heap.size) (w8.heap.size)) (w' := w9) fun b hb => ⟨hb, hb9.block b (Nat.lt_of_lt_of_le hb.2 LG11.out)⟩)
  have LG12 := Lib.hid (show w8.heap.size ≤ (w9).heap.size from Nat.le_trans LG11.out hb9.size)
  have ba112 := Lib.hid (ba111.out.below hb9 ba111.out.lt)
  have bx112 := Lib.hid (bx111.out.below hb9 bx111.out.lt)
  have at012 := Lib.hid (at011.out.below hb9 hb9.size)
  have at112 := Lib.hid (at111.out.below hb9 hb9.size)
  have hcba112 := fun i => ba112.out.cell i
  have hcbx112 := fun i => bx112.out.cell i
  go_wp2_with fail
  refine (toSchemeS' t0 A0 c0 _ at012.out hm0).mono ?_
  rintro e w10 ⟨Y01, y01, rfl, owy0, hb10⟩
  have B13 := B12.trans (hb10.mono B12.size)
  have OW13 := Lib.hid (OW12.out.keep (S' := Btw ((w4).heap.size) (w5.heap.size)) (w' := w10) fun b hb => ⟨hb, hb10.block b (Nat.lt_of_lt_of_le hb.2 LW12.out)⟩)
  have LW13 := Lib.hid (show w5.heap.size ≤ (w10).heap.size from Nat.le_trans LW12.out hb10.size)
  have Ox013 := Lib.hid (Ox012.out.keep (S' := Btw ((w5).heap.size) (w6.heap.size)) (w' := w10) fun b hb => ⟨hb, hb10.block b (Nat.lt_of_lt_of_le hb.2 Lx012.out)⟩)
  have Lx013 := Lib.hid (show w6.heap.size ≤ (w10).heap.size from Nat.le_trans Lx012.out hb10.size)
  have Ox113 := Lib.hid (Ox112.out.keep (S' := Btw ((w6).heap.size) (w7.heap.size)) (w' := w10) fun b hb => ⟨hb, hb10.block b (Nat.lt_of_lt_of_le hb.2 Lx112.out)⟩)
  have Lx113 := Lib.hid (show w7.heap.size ≤ (w10).heap.size from Nat.le_trans Lx112.out hb10.size)
  have OG13 := Lib.hid (OG12.out.keep (S' := Btw ((w7.alloc (.cells #[.int .i64 t1.op, .int .i64 t1.n, .string t1.s, .slice X11 t1.kids.length x11] 36)).heap.size) (w8.heap.size)) (w' := w10) fun b hb => ⟨hb, hb10.block b (Nat.lt_of_lt_of_le hb.2 LG12.out)⟩)
  have LG13 := Lib.hid (show w8.heap.size ≤ (w10).heap.size from Nat.le_trans LG12.out hb10.size)
  have ba113 := Lib.hid (ba112.out.below hb10 ba112.out.lt)
  have bx113 := Lib.hid (bx112.out.below hb10 bx112.out.lt)
  have at013 := Lib.hid (at012.out.below hb10 hb10.size)
  have at113 := Lib.hid (at112.out.below hb10 hb10.size)
  have yf013 := Lib.hid (owy0.slLt)
  have hcba113 := fun i => ba113.out.cell i
  have hcbx113 := fun i => bx113.out.cell i
  go_wp2_with fail
  refine (eqSchemeS' t0 X01 Y01 x01 y01 _ (Ox013.out.sl.keep fun b hb => ⟨Nat.lt_of_lt_of_le hb.2 Lx013.out, rfl⟩) yf013.out).mono ?_
  rintro e w11 ⟨rfl, hb11⟩
  have B14 := B13.trans (hb11.mono B13.size)
  have OW14 := Lib.hid (OW13.out.keep (S' := Btw ((w4).heap.size) (w5.heap.size)) (w' := w11) fun b hb => ⟨hb, hb11.block b (Nat.lt_of_lt_of_le hb.2 LW13.out)⟩)
  have LW14 := Lib.hid (show w5.heap.size ≤ (w11).heap.size from Nat.le_trans LW13.out hb11.size)
  have Ox014 := Lib.hid (Ox013.out.keep (S' := Btw ((w5).heap.size) (w6.heap.size)) (w' := w11) fun b hb => ⟨hb, hb11.block b (Nat.lt_of_lt_of_le hb.2 Lx013.out)⟩)
  have Lx014 := Lib.hid (show w6.heap.size ≤ (w11).heap.size from Nat.le_trans Lx013.out hb11.size)
  have Ox114 := Lib.hid (Ox113.out.keep (S' := Btw ((w6).heap.size) (w7.heap.size)) (w' := w11) fun b hb => ⟨hb, hb11.block b (Nat.lt_of_lt_of_le hb.2 Lx113.out)⟩)
  have Lx114 := Lib.hid (show w7.heap.size ≤ (w11).heap.size from Nat.le_trans Lx113.out hb11.size)
  have OG14 := Lib.hid (OG13.out.keep (S' := Btw ((w7.alloc (.cells #[.int .i64 t1.op, .int .i64 t1.n, .string t1.s, .slice X11 t1.kids.length x11] 36)).heap.size) (w8.heap.size)) (w' := w11) fun b hb => ⟨hb, hb11.block b (Nat.lt_of_lt_of_le hb.2 LG13.out)⟩)
  have LG14 := Lib.hid (show w8.heap.size ≤ (w11).heap.size from Nat.le_trans LG13.out hb11.size)
  have ba114 := Lib.hid (ba113.out.below hb11 ba113.out.lt)
  have bx114 := Lib.hid (bx113.out.below hb11 bx113.out.lt)
  have at014 := Lib.hid (at013.out.below hb11 hb11.size)
  have at114 := Lib.hid (at113.out.below hb11 hb11.size)
  have yf014 := Lib.hid (yf013.out.below hb11 hb11.size)
  have hcba114 := fun i => ba114.out.cell i
  have hcbx114 := fun i => bx114.out.cell i
  go_wp2_with fail
  have B15 : Below w.heap.size w (w11).drew := B14.drew
  have ba115 : Hid (Row (w11).drew (w.heap.size) 24 #[.int .i64 t1.op, .int .i64 t1.n, .string t1.s, .slice A11 t1.kids.length c11]) := ba114
  have bx115 : Hid (Row (w11).drew (w7.heap.size) 36 #[.int .i64 t1.op, .int .i64 t1.n, .string t1.s, .slice X11 t1.kids.length x11]) := bx114
  have at015 := Lib.hid (at014.out.keep (w' := (w11).drew) (S' := Lt (w11).drew.heap.size) fun b hb => ⟨hb, rfl⟩)
  have at115 := Lib.hid (at114.out.keep (w' := (w11).drew) (S' := Lt (w11).drew.heap.size) fun b hb => ⟨hb, rfl⟩)
  have OW15 := Lib.hid (OW14.out.keep (S' := Btw ((w4).heap.size) (w5.heap.size)) (w' := (w11).drew) fun b hb => ⟨hb, rfl⟩)
  have LW15 := Lib.hid (show w5.heap.size ≤ ((w11).drew).heap.size from Nat.le_trans LW14.out (Nat.le_refl _))
  have Ox015 := Lib.hid (Ox014.out.keep (S' := Btw ((w5).heap.size) (w6.heap.size)) (w' := (w11).drew) fun b hb => ⟨hb, rfl⟩)
  have Lx015 := Lib.hid (show w6.heap.size ≤ ((w11).drew).heap.size from Nat.le_trans Lx014.out (Nat.le_refl _))
  have Ox115 := Lib.hid (Ox114.out.keep (S' := Btw ((w6).heap.size) (w7.heap.size)) (w' := (w11).drew) fun b hb => ⟨hb, rfl⟩)
  have Lx115 := Lib.hid (show w7.heap.size ≤ ((w11).drew).heap.size from Nat.le_trans Lx114.out (Nat.le_refl _))
  have OG15 := Lib.hid (OG14.out.keep (S' := Btw ((w7.alloc (.cells #[.int .i64 t1.op, .int .i64 t1.n, .string t1.s, .slice X11 t1.kids.length x11] 36)).heap.size) (w8.heap.size)) (w' := (w11).drew) fun b hb => ⟨hb, rfl⟩)
  have LG15 := Lib.hid (show w8.heap.size ≤ ((w11).drew).heap.size from Nat.le_trans LG14.out (Nat.le_refl _))
  have hcba115 := fun i => ba115.out.cell i
  have hcbx115 := fun i => bx115.out.cell i
  go_region_held3 (fun w' => (∀ i, w'.cell? ⟨w.heap.size, i, none⟩ = (#[.int .i64 t1.op, .int .i64 t1.n, .string t1.s, .slice A11 t1.kids.length c11] : Array Value)[i]?) ∧ (∀ i, w'.cell? ⟨w7.heap.size, i, none⟩ = (#[.int .i64 t1.op, .int .i64 t1.n, .string t1.s, .slice X11 t1.kids.length x11] : Array Value)[i]?)) (first | exact ⟨hcba115, hcbx115⟩ | exact ⟨hcba116, hcbx116⟩ | exact ⟨hcba117, hcbx117⟩) (first
    | (go_at_call 45
       refine (toTy' t1 A11 c11 _ hm1 at115.out).mono ?_
       rintro e w12 ⟨Y11, y11, rfl, owy1, hb12⟩
       have B16 := B15.trans (hb12.mono B15.size)
       have OW16 := Lib.hid (OW15.out.keep (S' := Btw ((w4).heap.size) (w5.heap.size)) (w' := w12) fun b hb => ⟨hb, hb12.block b (Nat.lt_of_lt_of_le hb.2 LW15.out)⟩)
       have LW16 := Lib.hid (show w5.heap.size ≤ (w12).heap.size from Nat.le_trans LW15.out hb12.size)
       have Ox016 := Lib.hid (Ox015.out.keep (S' := Btw ((w5).heap.size) (w6.heap.size)) (w' := w12) fun b hb => ⟨hb, hb12.block b (Nat.lt_of_lt_of_le hb.2 Lx015.out)⟩)
       have Lx016 := Lib.hid (show w6.heap.size ≤ (w12).heap.size from Nat.le_trans Lx015.out hb12.size)
       have Ox116 := Lib.hid (Ox115.out.keep (S' := Btw ((w6).heap.size) (w7.heap.size)) (w' := w12) fun b hb => ⟨hb, hb12.block b (Nat.lt_of_lt_of_le hb.2 Lx115.out)⟩)
       have Lx116 := Lib.hid (show w7.heap.size ≤ (w12).heap.size from Nat.le_trans Lx115.out hb12.size)
       have OG16 := Lib.hid (OG15.out.keep (S' := Btw ((w7.alloc (.cells #[.int .i64 t1.op, .int .i64 t1.n, .string t1.s, .slice X11 t1.kids.length x11] 36)).heap.size) (w8.heap.size)) (w' := w12) fun b hb => ⟨hb, hb12.block b (Nat.lt_of_lt_of_le hb.2 LG15.out)⟩)
       have LG16 := Lib.hid (show w8.heap.size ≤ (w12).heap.size from Nat.le_trans LG15.out hb12.size)
       have ba116 := Lib.hid (ba115.out.below hb12 ba115.out.lt)
       have bx116 := Lib.hid (bx115.out.below hb12 bx115.out.lt)
       have at016 := Lib.hid (at015.out.below hb12 hb12.size)
       have at116 := Lib.hid (at115.out.below hb12 hb12.size)
       have yf116 := Lib.hid (owy1.at.keep fun b hb => ⟨hb.2, rfl⟩)
       have hcba116 := fun i => ba116.out.cell i
       have hcbx116 := fun i => bx116.out.cell i)
    | (go_at_call 47
       refine (eqTy' t1 X11 x11 Y11 y11 _ (Ox116.out.at.keep fun b hb => ⟨Nat.lt_of_lt_of_le hb.2 Lx116.out, rfl⟩) yf116.out).mono ?_
       rintro e w13 ⟨rfl, hb13⟩
       have B17 := B16.trans (hb13.mono B16.size)
       have OW17 := Lib.hid (OW16.out.keep (S' := Btw ((w4).heap.size) (w5.heap.size)) (w' := w13) fun b hb => ⟨hb, hb13.block b (Nat.lt_of_lt_of_le hb.2 LW16.out)⟩)
       have LW17 := Lib.hid (show w5.heap.size ≤ (w13).heap.size from Nat.le_trans LW16.out hb13.size)
       have Ox017 := Lib.hid (Ox016.out.keep (S' := Btw ((w5).heap.size) (w6.heap.size)) (w' := w13) fun b hb => ⟨hb, hb13.block b (Nat.lt_of_lt_of_le hb.2 Lx016.out)⟩)
       have Lx017 := Lib.hid (show w6.heap.size ≤ (w13).heap.size from Nat.le_trans Lx016.out hb13.size)
       have Ox117 := Lib.hid (Ox116.out.keep (S' := Btw ((w6).heap.size) (w7.heap.size)) (w' := w13) fun b hb => ⟨hb, hb13.block b (Nat.lt_of_lt_of_le hb.2 Lx116.out)⟩)
       have Lx117 := Lib.hid (show w7.heap.size ≤ (w13).heap.size from Nat.le_trans Lx116.out hb13.size)
       have OG17 := Lib.hid (OG16.out.keep (S' := Btw ((w7.alloc (.cells #[.int .i64 t1.op, .int .i64 t1.n, .string t1.s, .slice X11 t1.kids.length x11] 36)).heap.size) (w8.heap.size)) (w' := w13) fun b hb => ⟨hb, hb13.block b (Nat.lt_of_lt_of_le hb.2 LG16.out)⟩)
       have LG17 := Lib.hid (show w8.heap.size ≤ (w13).heap.size from Nat.le_trans LG16.out hb13.size)
       have ba117 := Lib.hid (ba116.out.below hb13 ba116.out.lt)
       have bx117 := Lib.hid (bx116.out.below hb13 bx116.out.lt)
       have at017 := Lib.hid (at016.out.below hb13 hb13.size)
       have at117 := Lib.hid (at116.out.below hb13 hb13.size)
       have yf117 := Lib.hid (yf116.out.below hb13 hb13.size)
       have hcba117 := fun i => ba117.out.cell i
       have hcbx117 := fun i => bx117.out.cell i))
  obtain ⟨k0, hk0e⟩ : ∃ k0 : Nat, k0 = 1 := ⟨_, rfl⟩
  have hcn0 : cntL GScheme.cnt t0 ≤ 33554432 := by have := GScheme.cnts_bulk t0; omega
  have hcn1 : t1.cnt0 ≤ 33554432 := by have := t1.cnt0_le; have := t1.cnt_bulk; omega
  go_wp2_with fail
  refine (markSchemeS' t0 X01 x01 k0 _ (Btw ((w5).heap.size) (w6.heap.size)) _ (by omega) (by omega) (by omega) (fun b hb => Nat.lt_of_lt_of_le hb.2 Lx017.out) Ox017.out).mono ?_
  rintro e w14 ⟨rfl, ho14, ht14⟩
  have B18 : Below w.heap.size w w14 := B17.trans (ht14.below (fun b hb => Nat.le_trans Wx0.out hb.1) B17.size)
  have OW18 := Lib.hid (OW17.out.keep (S' := Btw ((w4).heap.size) (w5.heap.size)) (w' := w14) fun b hb => ⟨hb, ht14.block b (Nat.lt_of_lt_of_le hb.2 LW17.out) (fun e => Nat.lt_irrefl _ (Nat.lt_of_lt_of_le hb.2 (Nat.le_trans ZW_x0.out e.1)))⟩)
  have LW18 := Lib.hid (show w5.heap.size ≤ (w14).heap.size from Nat.le_trans LW17.out ht14.size)
  have Ox118 := Lib.hid (Ox117.out.keep (S' := Btw ((w6).heap.size) (w7.heap.size)) (w' := w14) fun b hb => ⟨hb, ht14.block b (Nat.lt_of_lt_of_le hb.2 Lx117.out) (fun e => Nat.lt_irrefl _ (Nat.lt_of_lt_of_le e.2 (Nat.le_trans Zx0_x1.out hb.1)))⟩)
  have Lx118 := Lib.hid (show w7.heap.size ≤ (w14).heap.size from Nat.le_trans Lx117.out ht14.size)
  have OG18 := Lib.hid (OG17.out.keep (S' := Btw ((w7.alloc (.cells #[.int .i64 t1.op, .int .i64 t1.n, .string t1.s, .slice X11 t1.kids.length x11] 36)).heap.size) (w8.heap.size)) (w' := w14) fun b hb => ⟨hb, ht14.block b (Nat.lt_of_lt_of_le hb.2 LG17.out) (fun e => Nat.lt_irrefl _ (Nat.lt_of_lt_of_le e.2 (Nat.le_trans Zx0_G.out hb.1)))⟩)
  have LG18 := Lib.hid (show w8.heap.size ≤ (w14).heap.size from Nat.le_trans LG17.out ht14.size)
  have ba118 : Hid (Row w14 (w.heap.size) 24 #[.int .i64 t1.op, .int .i64 t1.n, .string t1.s, .slice A11 t1.kids.length c11]) := Lib.hid ((ht14.block (w.heap.size) ba117.out.lt (fun e => Nat.lt_irrefl _ (Nat.lt_of_lt_of_le Xba1_x0.out e.1))).trans ba117.out)
  have bx118 : Hid (Row w14 (w7.heap.size) 36 #[.int .i64 t1.op, .int .i64 t1.n, .string t1.s, .slice X11 t1.kids.length x11]) := Lib.hid ((ht14.block (w7.heap.size) bx117.out.lt (fun e => Nat.lt_irrefl _ (Nat.lt_of_lt_of_le e.2 Yx0_bx1.out))).trans bx117.out)
  have at018 := Lib.hid (at00.out.below B18 B18.size)
  have at118 := Lib.hid (at10.out.below B18 B18.size)
  have hcba118 := fun i => ba118.out.cell i
  have hcbx118 := fun i => bx118.out.cell i
  obtain ⟨k1, hk1e⟩ : ∃ k1 : Nat, k1 = k0 + cntL GScheme.cnt t0 := ⟨_, rfl⟩
  rw [← hk1e]
  go_wp2_with fail
  refine (markTy0 t1 X11 x11 k1 _ (Btw ((w6).heap.size) (w7.heap.size)) _ (by omega) (by omega) (by omega) (fun b hb => Nat.lt_of_lt_of_le hb.2 Lx118.out) Ox118.out).mono ?_
  rintro e w15 ⟨rfl, ho15, ht15⟩
  have B19 : Below w.heap.size w w15 := B18.trans (ht15.below (fun b hb => Nat.le_trans Wx1.out hb.1) B18.size)
  have OW19 := Lib.hid (OW18.out.keep (S' := Btw ((w4).heap.size) (w5.heap.size)) (w' := w15) fun b hb => ⟨hb, ht15.block b (Nat.lt_of_lt_of_le hb.2 LW18.out) (fun e => Nat.lt_irrefl _ (Nat.lt_of_lt_of_le hb.2 (Nat.le_trans ZW_x1.out e.1)))⟩)
  have LW19 := Lib.hid (show w5.heap.size ≤ (w15).heap.size from Nat.le_trans LW18.out ht15.size)
  have OG19 := Lib.hid (OG18.out.keep (S' := Btw ((w7.alloc (.cells #[.int .i64 t1.op, .int .i64 t1.n, .string t1.s, .slice X11 t1.kids.length x11] 36)).heap.size) (w8.heap.size)) (w' := w15) fun b hb => ⟨hb, ht15.block b (Nat.lt_of_lt_of_le hb.2 LG18.out) (fun e => Nat.lt_irrefl _ (Nat.lt_of_lt_of_le e.2 (Nat.le_trans Zx1_G.out hb.1)))⟩)
  have LG19 := Lib.hid (show w8.heap.size ≤ (w15).heap.size from Nat.le_trans LG18.out ht15.size)
  have ba119 : Hid (Row w15 (w.heap.size) 24 #[.int .i64 t1.op, .int .i64 t1.n, .string t1.s, .slice A11 t1.kids.length c11]) := Lib.hid ((ht15.block (w.heap.size) ba118.out.lt (fun e => Nat.lt_irrefl _ (Nat.lt_of_lt_of_le Xba1_x1.out e.1))).trans ba118.out)
  have bx119 : Hid (Row w15 (w7.heap.size) 36 #[.int .i64 t1.op, .int .i64 t1.n, .string t1.s, .slice X11 t1.kids.length x11]) := Lib.hid ((ht15.block (w7.heap.size) bx118.out.lt (fun e => Nat.lt_irrefl _ (Nat.lt_of_lt_of_le e.2 Yx1_bx1.out))).trans bx118.out)
  have at019 := Lib.hid (at00.out.below B19 B19.size)
  have at119 := Lib.hid (at10.out.below B19 B19.size)
  have hcba119 := fun i => ba119.out.cell i
  have hcbx119 := fun i => bx119.out.cell i
  obtain ⟨k2, hk2e⟩ : ∃ k2 : Nat, k2 = k1 + t1.cnt0 := ⟨_, rfl⟩
  rw [← hk2e]
  go_wp2_with fail
  refine (eqIntS' (genV t0 t1) GR1 DOR1 gr1 dor1 _ (OG19.out.sl.keep fun b hb => ⟨Nat.lt_of_lt_of_le hb.2 LG19.out, rfl⟩) (OW19.out.sl.keep fun b hb => ⟨Nat.lt_of_lt_of_le hb.2 LW19.out, rfl⟩)).mono ?_
  rintro e w16 ⟨rfl, hb16⟩
  have B20 := B19.trans (hb16.mono B19.size)
  have OW20 := Lib.hid (OW19.out.keep (S' := Btw ((w4).heap.size) (w5.heap.size)) (w' := w16) fun b hb => ⟨hb, hb16.block b (Nat.lt_of_lt_of_le hb.2 LW19.out)⟩)
  have LW20 := Lib.hid (show w5.heap.size ≤ (w16).heap.size from Nat.le_trans LW19.out hb16.size)
  have OG20 := Lib.hid (OG19.out.keep (S' := Btw ((w7.alloc (.cells #[.int .i64 t1.op, .int .i64 t1.n, .string t1.s, .slice X11 t1.kids.length x11] 36)).heap.size) (w8.heap.size)) (w' := w16) fun b hb => ⟨hb, hb16.block b (Nat.lt_of_lt_of_le hb.2 LG19.out)⟩)
  have LG20 := Lib.hid (show w8.heap.size ≤ (w16).heap.size from Nat.le_trans LG19.out hb16.size)
  have ba120 := Lib.hid (ba119.out.below hb16 ba119.out.lt)
  have bx120 := Lib.hid (bx119.out.below hb16 bx119.out.lt)
  have at020 := Lib.hid (at019.out.below hb16 hb16.size)
  have at120 := Lib.hid (at119.out.below hb16 hb16.size)
  have hcba120 := fun i => ba120.out.cell i
  have hcbx120 := fun i => bx120.out.cell i
  have hcr : cntL cnI (genV t0 t1) ≤ 2305843009213693952 := by rw [cntL_int]; have := t1.vs_len []; have h2 : (genV t0 t1).length ≤ (t1.vs []).length := List.length_filter_le _ _; simp at this; omega
  go_wp2_with fail
  refine (markIntSI (genV t0 t1) GR1 gr1 k0 _ (Btw ((w7.alloc (.cells #[.int .i64 t1.op, .int .i64 t1.n, .string t1.s, .slice X11 t1.kids.length x11] 36)).heap.size) (w8.heap.size)) _ (by omega) (by omega) OG20.out).mono ?_
  rintro e w17 ⟨rfl, ho17, ht17⟩
  have B21 : Below w.heap.size w w17 := B20.trans (ht17.below (fun b hb => Nat.le_trans WG.out hb.1) B20.size)
  have OW21 := Lib.hid (OW20.out.keep (S' := Btw ((w4).heap.size) (w5.heap.size)) (w' := w17) fun b hb => ⟨hb, ht17.block b (Nat.lt_of_lt_of_le hb.2 LW20.out) (fun e => Nat.lt_irrefl _ (Nat.lt_of_lt_of_le hb.2 (Nat.le_trans ZW_G.out e.1)))⟩)
  have LW21 := Lib.hid (show w5.heap.size ≤ (w17).heap.size from Nat.le_trans LW20.out ht17.size)
  have ba121 : Hid (Row w17 (w.heap.size) 24 #[.int .i64 t1.op, .int .i64 t1.n, .string t1.s, .slice A11 t1.kids.length c11]) := Lib.hid ((ht17.block (w.heap.size) ba120.out.lt (fun e => Nat.lt_irrefl _ (Nat.lt_of_lt_of_le Xba1_G.out e.1))).trans ba120.out)
  have bx121 : Hid (Row w17 (w7.heap.size) 36 #[.int .i64 t1.op, .int .i64 t1.n, .string t1.s, .slice X11 t1.kids.length x11]) := Lib.hid ((ht17.block (w7.heap.size) bx120.out.lt (fun e => Nat.lt_irrefl _ (Nat.lt_of_lt_of_le Xbx1_G.out e.1))).trans bx120.out)
  have at021 := Lib.hid (at00.out.below B21 B21.size)
  have at121 := Lib.hid (at10.out.below B21 B21.size)
  have OG21 := Lib.hid ho17
  have LG21 := Lib.hid (show w8.heap.size ≤ (w17).heap.size from Nat.le_trans LG20.out ht17.size)
  have hcba121 := fun i => ba121.out.cell i
  have hcbx121 := fun i => bx121.out.cell i
  obtain ⟨km, hkm⟩ : ∃ km : Nat, km = k0 + cntL cnI (genV t0 t1) := ⟨_, rfl⟩
  rw [← hkm]
  go_wp2_with fail
  refine (heldIntSI (genV t0 t1) GR1 gr1 k0 _ _ (by omega) (by omega) (OG21.out.sl.keep fun b hb => ⟨Nat.lt_of_lt_of_le hb.2 LG21.out, rfl⟩)).mono ?_
  rintro e w18 ⟨rfl, hb18⟩
  have B22 := B21.trans (hb18.mono B21.size)
  have OW22 := Lib.hid (OW21.out.keep (S' := Btw ((w4).heap.size) (w5.heap.size)) (w' := w18) fun b hb => ⟨hb, hb18.block b (Nat.lt_of_lt_of_le hb.2 LW21.out)⟩)
  have LW22 := Lib.hid (show w5.heap.size ≤ (w18).heap.size from Nat.le_trans LW21.out hb18.size)
  have OG22 := Lib.hid (OG21.out.keep (S' := Btw ((w7.alloc (.cells #[.int .i64 t1.op, .int .i64 t1.n, .string t1.s, .slice X11 t1.kids.length x11] 36)).heap.size) (w8.heap.size)) (w' := w18) fun b hb => ⟨hb, hb18.block b (Nat.lt_of_lt_of_le hb.2 LG21.out)⟩)
  have LG22 := Lib.hid (show w8.heap.size ≤ (w18).heap.size from Nat.le_trans LG21.out hb18.size)
  have ba122 := Lib.hid (ba121.out.below hb18 ba121.out.lt)
  have bx122 := Lib.hid (bx121.out.below hb18 bx121.out.lt)
  have at022 := Lib.hid (at021.out.below hb18 hb18.size)
  have at122 := Lib.hid (at121.out.below hb18 hb18.size)
  have hcba122 := fun i => ba122.out.cell i
  have hcbx122 := fun i => bx122.out.cell i
  rw [← hkm]
  go_wp2_with fail
  have B23 : Below w.heap.size w (w18).drew := B22.drew
  have ba123 : Hid (Row (w18).drew (w.heap.size) 24 #[.int .i64 t1.op, .int .i64 t1.n, .string t1.s, .slice A11 t1.kids.length c11]) := ba122
  have bx123 : Hid (Row (w18).drew (w7.heap.size) 36 #[.int .i64 t1.op, .int .i64 t1.n, .string t1.s, .slice X11 t1.kids.length x11]) := bx122
  have at023 := Lib.hid (at022.out.keep (w' := (w18).drew) (S' := Lt (w18).drew.heap.size) fun b hb => ⟨hb, rfl⟩)
  have at123 := Lib.hid (at122.out.keep (w' := (w18).drew) (S' := Lt (w18).drew.heap.size) fun b hb => ⟨hb, rfl⟩)
  have OW23 := Lib.hid (OW22.out.keep (S' := Btw ((w4).heap.size) (w5.heap.size)) (w' := (w18).drew) fun b hb => ⟨hb, rfl⟩)
  have LW23 := Lib.hid (show w5.heap.size ≤ ((w18).drew).heap.size from Nat.le_trans LW22.out (Nat.le_refl _))
  have OG23 := Lib.hid (OG22.out.keep (S' := Btw ((w7.alloc (.cells #[.int .i64 t1.op, .int .i64 t1.n, .string t1.s, .slice X11 t1.kids.length x11] 36)).heap.size) (w8.heap.size)) (w' := (w18).drew) fun b hb => ⟨hb, rfl⟩)
  have LG23 := Lib.hid (show w8.heap.size ≤ ((w18).drew).heap.size from Nat.le_trans LG22.out (Nat.le_refl _))
  have hcba123 := fun i => ba123.out.cell i
  have hcbx123 := fun i => bx123.out.cell i
  go_region_held3 (fun w' => (∀ i, w'.cell? ⟨w.heap.size, i, none⟩ = (#[.int .i64 t1.op, .int .i64 t1.n, .string t1.s, .slice A11 t1.kids.length c11] : Array Value)[i]?) ∧ (∀ i, w'.cell? ⟨w7.heap.size, i, none⟩ = (#[.int .i64 t1.op, .int .i64 t1.n, .string t1.s, .slice X11 t1.kids.length x11] : Array Value)[i]?)) (first | exact ⟨hcba123, hcbx123⟩ | exact ⟨hcba124, hcbx124⟩ | exact ⟨hcba125, hcbx125⟩ | exact ⟨hcba126, hcbx126⟩) (first
    | (go_at_call 73
       refine (toSchemeS' t0 A0 c0 _ at023.out hm0).mono ?_
       rintro e w19 ⟨Z01, z01, rfl, owz0, hb19⟩
       have B24 := B23.trans (hb19.mono B23.size)
       have OW24 := Lib.hid (OW23.out.keep (S' := Btw ((w4).heap.size) (w5.heap.size)) (w' := w19) fun b hb => ⟨hb, hb19.block b (Nat.lt_of_lt_of_le hb.2 LW23.out)⟩)
       have LW24 := Lib.hid (show w5.heap.size ≤ (w19).heap.size from Nat.le_trans LW23.out hb19.size)
       have OG24 := Lib.hid (OG23.out.keep (S' := Btw ((w7.alloc (.cells #[.int .i64 t1.op, .int .i64 t1.n, .string t1.s, .slice X11 t1.kids.length x11] 36)).heap.size) (w8.heap.size)) (w' := w19) fun b hb => ⟨hb, hb19.block b (Nat.lt_of_lt_of_le hb.2 LG23.out)⟩)
       have LG24 := Lib.hid (show w8.heap.size ≤ (w19).heap.size from Nat.le_trans LG23.out hb19.size)
       have ba124 := Lib.hid (ba123.out.below hb19 ba123.out.lt)
       have bx124 := Lib.hid (bx123.out.below hb19 bx123.out.lt)
       have at024 := Lib.hid (at023.out.below hb19 hb19.size)
       have at124 := Lib.hid (at123.out.below hb19 hb19.size)
       have zf024 := Lib.hid (owz0.slLt)
       have hcba124 := fun i => ba124.out.cell i
       have hcbx124 := fun i => bx124.out.cell i)
    | (go_at_call_of 45 t1
       refine (toTy' t1 A11 c11 _ hm1 at124.out).mono ?_
       rintro e w20 ⟨Z11, z11, rfl, owz1, hb20⟩
       have B25 := B24.trans (hb20.mono B24.size)
       have OW25 := Lib.hid (OW24.out.keep (S' := Btw ((w4).heap.size) (w5.heap.size)) (w' := w20) fun b hb => ⟨hb, hb20.block b (Nat.lt_of_lt_of_le hb.2 LW24.out)⟩)
       have LW25 := Lib.hid (show w5.heap.size ≤ (w20).heap.size from Nat.le_trans LW24.out hb20.size)
       have OG25 := Lib.hid (OG24.out.keep (S' := Btw ((w7.alloc (.cells #[.int .i64 t1.op, .int .i64 t1.n, .string t1.s, .slice X11 t1.kids.length x11] 36)).heap.size) (w8.heap.size)) (w' := w20) fun b hb => ⟨hb, hb20.block b (Nat.lt_of_lt_of_le hb.2 LG24.out)⟩)
       have LG25 := Lib.hid (show w8.heap.size ≤ (w20).heap.size from Nat.le_trans LG24.out hb20.size)
       have ba125 := Lib.hid (ba124.out.below hb20 ba124.out.lt)
       have bx125 := Lib.hid (bx124.out.below hb20 bx124.out.lt)
       have at025 := Lib.hid (at024.out.below hb20 hb20.size)
       have at125 := Lib.hid (at124.out.below hb20 hb20.size)
       have zf025 := Lib.hid (zf024.out.below hb20 hb20.size)
       have zf125 := Lib.hid (owz1.at.keep fun b hb => ⟨hb.2, rfl⟩)
       have hcba125 := fun i => ba125.out.cell i
       have hcbx125 := fun i => bx125.out.cell i)
    | (go_at_call 74
       refine (implGeneric t0 Z01 z01 t1 Z11 z11 _ hm0 hm1 zf025.out zf125.out).mono ?_
       rintro e w21 ⟨ZOR1, zor1, rfl, owzoR, hb21⟩
       have B26 := B25.trans (hb21.mono B25.size)
       have OW26 := Lib.hid (OW25.out.keep (S' := Btw ((w4).heap.size) (w5.heap.size)) (w' := w21) fun b hb => ⟨hb, hb21.block b (Nat.lt_of_lt_of_le hb.2 LW25.out)⟩)
       have LW26 := Lib.hid (show w5.heap.size ≤ (w21).heap.size from Nat.le_trans LW25.out hb21.size)
       have OG26 := Lib.hid (OG25.out.keep (S' := Btw ((w7.alloc (.cells #[.int .i64 t1.op, .int .i64 t1.n, .string t1.s, .slice X11 t1.kids.length x11] 36)).heap.size) (w8.heap.size)) (w' := w21) fun b hb => ⟨hb, hb21.block b (Nat.lt_of_lt_of_le hb.2 LG25.out)⟩)
       have LG26 := Lib.hid (show w8.heap.size ≤ (w21).heap.size from Nat.le_trans LG25.out hb21.size)
       have ba126 := Lib.hid (ba125.out.below hb21 ba125.out.lt)
       have bx126 := Lib.hid (bx125.out.below hb21 bx125.out.lt)
       have at026 := Lib.hid (at025.out.below hb21 hb21.size)
       have at126 := Lib.hid (at125.out.below hb21 hb21.size)
       have zf026 := Lib.hid (zf025.out.below hb21 hb21.size)
       have zf126 := Lib.hid (zf125.out.below hb21 hb21.size)
       have ZW_H := Lib.hid (show w5.heap.size ≤ (w20).heap.size from LW25.out)
       have ZG_H := Lib.hid (show w8.heap.size ≤ (w20).heap.size from LG25.out)
       have Xba1_H := Lib.hid (show w.heap.size < (w20).heap.size from ba125.out.lt)
       have Xbx1_H := Lib.hid (show w7.heap.size < (w20).heap.size from bx125.out.lt)
       have WH := Lib.hid (show w.heap.size ≤ (w20).heap.size from B25.size)
       have OH26 := Lib.hid (owzoR)
       have LH26 := Lib.hid (show w21.heap.size ≤ (w21).heap.size from Nat.le_refl _)
       have hcba126 := fun i => ba126.out.cell i
       have hcbx126 := fun i => bx126.out.cell i))
  go_wp2_with fail
  refine (eqIntS' (genV t0 t1) ZOR1 DOR1 zor1 dor1 _ (OH26.out.sl.keep fun b hb => ⟨Nat.lt_of_lt_of_le hb.2 LH26.out, rfl⟩) (OW26.out.sl.keep fun b hb => ⟨Nat.lt_of_lt_of_le hb.2 LW26.out, rfl⟩)).mono ?_
  rintro e w22 ⟨rfl, hb22⟩
  have B27 := B26.trans (hb22.mono B26.size)
  have OW27 := Lib.hid (OW26.out.keep (S' := Btw ((w4).heap.size) (w5.heap.size)) (w' := w22) fun b hb => ⟨hb, hb22.block b (Nat.lt_of_lt_of_le hb.2 LW26.out)⟩)
  have LW27 := Lib.hid (show w5.heap.size ≤ (w22).heap.size from Nat.le_trans LW26.out hb22.size)
  have OG27 := Lib.hid (OG26.out.keep (S' := Btw ((w7.alloc (.cells #[.int .i64 t1.op, .int .i64 t1.n, .string t1.s, .slice X11 t1.kids.length x11] 36)).heap.size) (w8.heap.size)) (w' := w22) fun b hb => ⟨hb, hb22.block b (Nat.lt_of_lt_of_le hb.2 LG26.out)⟩)
  have LG27 := Lib.hid (show w8.heap.size ≤ (w22).heap.size from Nat.le_trans LG26.out hb22.size)
  have OH27 := Lib.hid (OH26.out.keep (S' := Btw ((w20).heap.size) (w21.heap.size)) (w' := w22) fun b hb => ⟨hb, hb22.block b (Nat.lt_of_lt_of_le hb.2 LH26.out)⟩)
  have LH27 := Lib.hid (show w21.heap.size ≤ (w22).heap.size from Nat.le_trans LH26.out hb22.size)
  have ba127 := Lib.hid (ba126.out.below hb22 ba126.out.lt)
  have bx127 := Lib.hid (bx126.out.below hb22 bx126.out.lt)
  have at027 := Lib.hid (at026.out.below hb22 hb22.size)
  have at127 := Lib.hid (at126.out.below hb22 hb22.size)
  have hcba127 := fun i => ba127.out.cell i
  have hcbx127 := fun i => bx127.out.cell i
  go_wp2_with fail
  refine (heldIntSI (genV t0 t1) GR1 gr1 k0 _ _ (by omega) (by omega) (OG27.out.sl.keep fun b hb => ⟨Nat.lt_of_lt_of_le hb.2 LG27.out, rfl⟩)).mono ?_
  rintro e w23 ⟨rfl, hb23⟩
  have B28 := B27.trans (hb23.mono B27.size)
  have OW28 := Lib.hid (OW27.out.keep (S' := Btw ((w4).heap.size) (w5.heap.size)) (w' := w23) fun b hb => ⟨hb, hb23.block b (Nat.lt_of_lt_of_le hb.2 LW27.out)⟩)
  have LW28 := Lib.hid (show w5.heap.size ≤ (w23).heap.size from Nat.le_trans LW27.out hb23.size)
  have OG28 := Lib.hid (OG27.out.keep (S' := Btw ((w7.alloc (.cells #[.int .i64 t1.op, .int .i64 t1.n, .string t1.s, .slice X11 t1.kids.length x11] 36)).heap.size) (w8.heap.size)) (w' := w23) fun b hb => ⟨hb, hb23.block b (Nat.lt_of_lt_of_le hb.2 LG27.out)⟩)
  have LG28 := Lib.hid (show w8.heap.size ≤ (w23).heap.size from Nat.le_trans LG27.out hb23.size)
  have OH28 := Lib.hid (OH27.out.keep (S' := Btw ((w20).heap.size) (w21.heap.size)) (w' := w23) fun b hb => ⟨hb, hb23.block b (Nat.lt_of_lt_of_le hb.2 LH27.out)⟩)
  have LH28 := Lib.hid (show w21.heap.size ≤ (w23).heap.size from Nat.le_trans LH27.out hb23.size)
  have ba128 := Lib.hid (ba127.out.below hb23 ba127.out.lt)
  have bx128 := Lib.hid (bx127.out.below hb23 bx127.out.lt)
  have at028 := Lib.hid (at027.out.below hb23 hb23.size)
  have at128 := Lib.hid (at127.out.below hb23 hb23.size)
  have hcba128 := fun i => ba128.out.cell i
  have hcbx128 := fun i => bx128.out.cell i
  rw [← hkm]
  go_wp2_with fail
  go_ret
  exact ⟨rfl, B28⟩
end Go.Proofs.Ytjcgfbjdailgoaa
