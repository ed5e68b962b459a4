/- The walk of the law FnExactRunTree. Conditions: none. -/
import Derived.Test.YtnjindgpmacjmaaRunTree
import Derived.Test.YtnjindgpmacjmaaATree
import Derived.Test.YtnjindgpmacjmaaAValue
import Derived.Deep.RegionHeld3
namespace Go.Proofs.Ytnjindgpmacjmaa
open Go.RowKit
set_option linter.unusedVariables false
set_option linter.unusedSimpArgs false
set_option maxHeartbeats 2000000

set_option maxRecDepth 20000 in
theorem walkExactRunTree (t0 : GTree) (A01 : Option Addr) (c01 : Nat) (A02 : Option Addr) (c02 : Nat) (t1 : GValue) (A11 : Option Addr) (c11 : Nat) (w : World) (hat0 : GTree.At w (Lt w.heap.size) A01 c01 A02 c02 t0) (hat1 : GValue.At w (Lt w.heap.size) A11 c11 t1) :
    Calls Try.prog 9 #[.agg #[.int .i64 t0.op, .int .i64 t0.n, .slice A01 t0.path.length c01, .string t0.s, .slice A02 t0.kids.length c02], .agg #[.int .i64 t1.kind, .int .i64 t1.n, .string t1.s, .slice A11 t1.kids.length c11]] w fun e w' => e = .returned (.bool true) ∧ Below w.heap.size w w' := by
  have B0 : Below w.heap.size w w := Below.refl _ _
  have at00 := Lib.hid hat0
  have at10 := Lib.hid hat1
  clear hat0
  clear hat1
  have E1 : Below (w).heap.size (w) (w.alloc (.cells #[.int .i64 t0.op, .int .i64 t0.n, .slice A01 t0.path.length c01, .string t0.s, .slice A02 t0.kids.length c02] 70)) := (Below.refl _ _).alloc (Nat.le_refl _) _
  have B1 : Below w.heap.size w (w.alloc (.cells #[.int .i64 t0.op, .int .i64 t0.n, .slice A01 t0.path.length c01, .string t0.s, .slice A02 t0.kids.length c02] 70)) := B0.alloc B0.size _
  have ba01 := Lib.hid (Row.new' (w) 70 #[.int .i64 t0.op, .int .i64 t0.n, .slice A01 t0.path.length c01, .string t0.s, .slice A02 t0.kids.length c02] (g := w.heap.size) rfl)
  have at01 := Lib.hid (at00.out.below E1 E1.size)
  have at11 := Lib.hid (at10.out.below E1 E1.size)
  have E2 : Below (w.alloc (.cells #[.int .i64 t0.op, .int .i64 t0.n, .slice A01 t0.path.length c01, .string t0.s, .slice A02 t0.kids.length c02] 70)).heap.size (w.alloc (.cells #[.int .i64 t0.op, .int .i64 t0.n, .slice A01 t0.path.length c01, .string t0.s, .slice A02 t0.kids.length c02] 70)) ((w.alloc (.cells #[.int .i64 t0.op, .int .i64 t0.n, .slice A01 t0.path.length c01, .string t0.s, .slice A02 t0.kids.length c02] 70)).alloc (.cells #[.int .i64 t1.kind, .int .i64 t1.n, .string t1.s, .slice A11 t1.kids.length c11] 24)) := (Below.refl _ _).alloc (Nat.le_refl _) _
  have B2 : Below w.heap.size w ((w.alloc (.cells #[.int .i64 t0.op, .int .i64 t0.n, .slice A01 t0.path.length c01, .string t0.s, .slice A02 t0.kids.length c02] 70)).alloc (.cells #[.int .i64 t1.kind, .int .i64 t1.n, .string t1.s, .slice A11 t1.kids.length c11] 24)) := B1.alloc B1.size _
  have ba02 := Lib.hid (Row.alloc ba01.out (.cells #[.int .i64 t1.kind, .int .i64 t1.n, .string t1.s, .slice A11 t1.kids.length c11] 24))
  have ba12 := Lib.hid (Row.new' (w.alloc (.cells #[.int .i64 t0.op, .int .i64 t0.n, .slice A01 t0.path.length c01, .string t0.s, .slice A02 t0.kids.length c02] 70)) 24 #[.int .i64 t1.kind, .int .i64 t1.n, .string t1.s, .slice A11 t1.kids.length c11] (g := w.heap.size + 1) (by simp))
  have at02 := Lib.hid (at01.out.below E2 E2.size)
  have at12 := Lib.hid (at11.out.below E2 E2.size)
  go_enter Try.func9, Try.ntmps9
  go_wp2_with fail
  refine (szTree' t0 A01 c01 A02 c02 (1048576) _ (by omega) (by omega) at02.out).mono ?_
  rintro e w1 ⟨rfl, hb1⟩
  have B3 := B2.trans (hb1.mono B2.size)
  have ba03 := Lib.hid (ba02.out.below hb1 ba02.out.lt)
  have ba13 := Lib.hid (ba12.out.below hb1 ba12.out.lt)
  have at03 := Lib.hid (at02.out.below hb1 hb1.size)
  have at13 := Lib.hid (at12.out.below hb1 hb1.size)
  have hcba03 := fun i => ba03.out.cell i
  have hcba13 := fun i => ba13.out.cell i
  by_cases hk0 : ((t0.bulk : Nat) : Int) ≤ 1048576
  rotate_left
  · have hv := szv_gt (b := t0.bulk) (left := 1048576) (by omega)
    go_wp2_with fail
    go_ret
    exact ⟨rfl, B3⟩
  have hv0 := szv_le hk0
  have hge0 : 0 ≤ 1048576 - ((t0.bulk : Nat) : Int) := by omega
  have hm0 : t0.bulk ≤ 1048576 := by omega
  go_wp2_with fail
  refine (szValue' t1 A11 c11 (1048576 - ((t0.bulk : Nat) : Int)) _ (by omega) (by omega) at13.out).mono ?_
  rintro e w2 ⟨rfl, hb2⟩
  have B4 := B3.trans (hb2.mono B3.size)
  have ba04 := Lib.hid (ba03.out.below hb2 ba03.out.lt)
  have ba14 := Lib.hid (ba13.out.below hb2 ba13.out.lt)
  have at04 := Lib.hid (at03.out.below hb2 hb2.size)
  have at14 := Lib.hid (at13.out.below hb2 hb2.size)
  have hcba04 := fun i => ba04.out.cell i
  have hcba14 := fun i => ba14.out.cell i
  by_cases hk1 : ((t1.bulk : Nat) : Int) ≤ 1048576 - ((t0.bulk : Nat) : Int)
  rotate_left
  · have hv := szv_gt (b := t1.bulk) (left := 1048576 - ((t0.bulk : Nat) : Int)) (by omega)
    go_wp2_with fail
    go_ret
    exact ⟨rfl, B4⟩
  have hv1 := szv_le hk1
  have hge1 : 0 ≤ 1048576 - ((t0.bulk : Nat) : Int) - ((t1.bulk : Nat) : Int) := by omega
  have hm1 : t1.bulk ≤ 1048576 := by omega
  go_wp2_with fail
  have B5 : Below w.heap.size w (w2).drew := B4.drew
  have ba05 : Hid (Row (w2).drew (w.heap.size) 70 #[.int .i64 t0.op, .int .i64 t0.n, .slice A01 t0.path.length c01, .string t0.s, .slice A02 t0.kids.length c02]) := ba04
  have ba15 : Hid (Row (w2).drew (w.heap.size + 1) 24 #[.int .i64 t1.kind, .int .i64 t1.n, .string t1.s, .slice A11 t1.kids.length c11]) := ba14
  have at05 := Lib.hid (at04.out.keep (w' := (w2).drew) (S' := Lt (w2).drew.heap.size) fun b hb => ⟨hb, rfl⟩)
  have at15 := Lib.hid (at14.out.keep (w' := (w2).drew) (S' := Lt (w2).drew.heap.size) fun b hb => ⟨hb, rfl⟩)
  have hcba05 := fun i => ba05.out.cell i
  have hcba15 := fun i => ba15.out.cell i
  go_region_held3 (fun w' => (∀ i, w'.cell? ⟨w.heap.size, i, none⟩ = (#[.int .i64 t0.op, .int .i64 t0.n, .slice A01 t0.path.length c01, .string t0.s, .slice A02 t0.kids.length c02] : Array Value)[i]?) ∧ (∀ i, w'.cell? ⟨w.heap.size + 1, i, none⟩ = (#[.int .i64 t1.kind, .int .i64 t1.n, .string t1.s, .slice A11 t1.kids.length c11] : Array Value)[i]?)) (first | exact ⟨hcba05, hcba15⟩ | exact ⟨hcba06, hcba16⟩ | exact ⟨hcba07, hcba17⟩ | exact ⟨hcba08, hcba18⟩) (first
    | (go_at_call_of 46 t0
       refine (toTree' t0 A01 c01 A02 c02 _ hm0 at05.out).mono ?_
       rintro e w3 ⟨D01, d01, D02, d02, rfl, owd0, hb3⟩
       have B6 := B5.trans (hb3.mono B5.size)
       have ba06 := Lib.hid (ba05.out.below hb3 ba05.out.lt)
       have ba16 := Lib.hid (ba15.out.below hb3 ba15.out.lt)
       have at06 := Lib.hid (at05.out.below hb3 hb3.size)
       have at16 := Lib.hid (at15.out.below hb3 hb3.size)
       have hcba06 := fun i => ba06.out.cell i
       have hcba16 := fun i => ba16.out.cell i
       have df06 := Lib.hid (owd0.at.keep fun b hb => ⟨hb.2, rfl⟩))
    | (go_at_call_of 17 t1
       refine (toValue' t1 A11 c11 _ hm1 at16.out).mono ?_
       rintro e w4 ⟨D11, d11, rfl, owd1, hb4⟩
       have B7 := B6.trans (hb4.mono B6.size)
       have ba07 := Lib.hid (ba06.out.below hb4 ba06.out.lt)
       have ba17 := Lib.hid (ba16.out.below hb4 ba16.out.lt)
       have at07 := Lib.hid (at06.out.below hb4 hb4.size)
       have at17 := Lib.hid (at16.out.below hb4 hb4.size)
       have df07 := Lib.hid (df06.out.below hb4 hb4.size)
       have hcba07 := fun i => ba07.out.cell i
       have hcba17 := fun i => ba17.out.cell i
       have df17 := Lib.hid (owd1.at.keep fun b hb => ⟨hb.2, rfl⟩))
    | (go_at_call 45
       refine (specRunTree t0 D01 d01 D02 d02 t1 D11 d11 _ hm1 df07.out df17.out).mono ?_
       rintro e w5 ⟨rfl, hb5⟩
       have B8 := B7.trans (hb5.mono B7.size)
       have ba08 := Lib.hid (ba07.out.below hb5 ba07.out.lt)
       have ba18 := Lib.hid (ba17.out.below hb5 ba17.out.lt)
       have at08 := Lib.hid (at07.out.below hb5 hb5.size)
       have at18 := Lib.hid (at17.out.below hb5 hb5.size)
       have df08 := Lib.hid (df07.out.below hb5 hb5.size)
       have df18 := Lib.hid (df17.out.below hb5 hb5.size)
       have hcba08 := fun i => ba08.out.cell i
       have hcba18 := fun i => ba18.out.cell i))
  go_wp2_with fail
  refine (toTree' t0 A01 c01 A02 c02 _ hm0 at08.out).mono ?_
  rintro e w6 ⟨X01, x01, X02, x02, rfl, owx0, hb6⟩
  have B9 := B8.trans (hb6.mono B8.size)
  have ba09 := Lib.hid (ba08.out.below hb6 ba08.out.lt)
  have ba19 := Lib.hid (ba18.out.below hb6 ba18.out.lt)
  have at09 := Lib.hid (at08.out.below hb6 hb6.size)
  have at19 := Lib.hid (at18.out.below hb6 hb6.size)
  have hcba09 := fun i => ba09.out.cell i
  have hcba19 := fun i => ba19.out.cell i
  have xf09 := Lib.hid (owx0.at.keep fun b hb => ⟨hb.2, rfl⟩)
  have E10 : Below (w6).heap.size (w6) (w6.alloc (.cells #[.int .i64 t0.op, .int .i64 t0.n, .slice X01 t0.path.length x01, .string t0.s, .slice X02 t0.kids.length x02] 75)) := (Below.refl _ _).alloc (Nat.le_refl _) _
  have B10 : Below w.heap.size w (w6.alloc (.cells #[.int .i64 t0.op, .int .i64 t0.n, .slice X01 t0.path.length x01, .string t0.s, .slice X02 t0.kids.length x02] 75)) := B9.alloc B9.size _
  have ba010 := Lib.hid (Row.alloc ba09.out (.cells #[.int .i64 t0.op, .int .i64 t0.n, .slice X01 t0.path.length x01, .string t0.s, .slice X02 t0.kids.length x02] 75))
  have ba110 := Lib.hid (Row.alloc ba19.out (.cells #[.int .i64 t0.op, .int .i64 t0.n, .slice X01 t0.path.length x01, .string t0.s, .slice X02 t0.kids.length x02] 75))
  have bx010 := Lib.hid (Row.new' (w6) 75 #[.int .i64 t0.op, .int .i64 t0.n, .slice X01 t0.path.length x01, .string t0.s, .slice X02 t0.kids.length x02] (g := w6.heap.size) rfl)
  have at010 := Lib.hid (at09.out.below E10 E10.size)
  have at110 := Lib.hid (at19.out.below E10 E10.size)
  have xf010 := Lib.hid (xf09.out.below E10 E10.size)
  have hcba010 := fun i => ba010.out.cell i
  have hcba110 := fun i => ba110.out.cell i
  have hcbx010 := fun i => bx010.out.cell i
  go_wp2_with fail
  refine (toValue' t1 A11 c11 _ hm1 at110.out).mono ?_
  rintro e w7 ⟨X11, x11, rfl, owx1, hb7⟩
  have B11 := B10.trans (hb7.mono B10.size)
  have ba011 := Lib.hid (ba010.out.below hb7 ba010.out.lt)
  have ba111 := Lib.hid (ba110.out.below hb7 ba110.out.lt)
  have bx011 := Lib.hid (bx010.out.below hb7 bx010.out.lt)
  have at011 := Lib.hid (at010.out.below hb7 hb7.size)
  have at111 := Lib.hid (at110.out.below hb7 hb7.size)
  have xf011 := Lib.hid (xf010.out.below hb7 hb7.size)
  have hcba011 := fun i => ba011.out.cell i
  have hcba111 := fun i => ba111.out.cell i
  have hcbx011 := fun i => bx011.out.cell i
  have xf111 := Lib.hid (owx1.at.keep fun b hb => ⟨hb.2, rfl⟩)
  have E12 : Below (w7).heap.size (w7) (w7.alloc (.cells #[.int .i64 t1.kind, .int .i64 t1.n, .string t1.s, .slice X11 t1.kids.length x11] 29)) := (Below.refl _ _).alloc (Nat.le_refl _) _
  have B12 : Below w.heap.size w (w7.alloc (.cells #[.int .i64 t1.kind, .int .i64 t1.n, .string t1.s, .slice X11 t1.kids.length x11] 29)) := B11.alloc B11.size _
  have ba012 := Lib.hid (Row.alloc ba011.out (.cells #[.int .i64 t1.kind, .int .i64 t1.n, .string t1.s, .slice X11 t1.kids.length x11] 29))
  have ba112 := Lib.hid (Row.alloc ba111.out (.cells #[.int .i64 t1.kind, .int .i64 t1.n, .string t1.s, .slice X11 t1.kids.length x11] 29))
  have bx012 := Lib.hid (Row.alloc bx011.out (.cells #[.int .i64 t1.kind, .int .i64 t1.n, .string t1.s, .slice X11 t1.kids.length x11] 29))
  have bx112 := Lib.hid (Row.new' (w7) 29 #[.int .i64 t1.kind, .int .i64 t1.n, .string t1.s, .slice X11 t1.kids.length x11] (g := w7.heap.size) rfl)
  have at012 := Lib.hid (at011.out.below E12 E12.size)
  have at112 := Lib.hid (at111.out.below E12 E12.size)
  have xf012 := Lib.hid (xf011.out.below E12 E12.size)
  have xf112 := Lib.hid (xf111.out.below E12 E12.size)
  have hcba012 := fun i => ba012.out.cell i
  have hcba112 := fun i => ba112.out.cell i
  have hcbx012 := fun i => bx012.out.cell i
  have hcbx112 := fun i => bx112.out.cell i
  go_wp2_with fail
  refine (implRunTree t0 X01 x01 X02 x02 t1 X11 x11 _ hm1 xf012.out xf112.out).mono ?_
  rintro e w8 ⟨rfl, hb8⟩
  have B13 := B12.trans (hb8.mono B12.size)
  have ba013 := Lib.hid (ba012.out.below hb8 ba012.out.lt)
  have ba113 := Lib.hid (ba112.out.below hb8 ba112.out.lt)
  have bx013 := Lib.hid (bx012.out.below hb8 bx012.out.lt)
  have bx113 := Lib.hid (bx112.out.below hb8 bx112.out.lt)
  have at013 := Lib.hid (at012.out.below hb8 hb8.size)
  have at113 := Lib.hid (at112.out.below hb8 hb8.size)
  have xf013 := Lib.hid (xf012.out.below hb8 hb8.size)
  have xf113 := Lib.hid (xf112.out.below hb8 hb8.size)
  have hcba013 := fun i => ba013.out.cell i
  have hcba113 := fun i => ba113.out.cell i
  have hcbx013 := fun i => bx013.out.cell i
  have hcbx113 := fun i => bx113.out.cell i
  go_wp2_with fail
  have B14 : Below w.heap.size w (w8).drew := B13.drew
  have ba014 : Hid (Row (w8).drew (w.heap.size) 70 #[.int .i64 t0.op, .int .i64 t0.n, .slice A01 t0.path.length c01, .string t0.s, .slice A02 t0.kids.length c02]) := ba013
  have ba114 : Hid (Row (w8).drew (w.heap.size + 1) 24 #[.int .i64 t1.kind, .int .i64 t1.n, .string t1.s, .slice A11 t1.kids.length c11]) := ba113
  have bx014 : Hid (Row (w8).drew (w6.heap.size) 75 #[.int .i64 t0.op, .int .i64 t0.n, .slice X01 t0.path.length x01, .string t0.s, .slice X02 t0.kids.length x02]) := bx013
  have bx114 : Hid (Row (w8).drew (w7.heap.size) 29 #[.int .i64 t1.kind, .int .i64 t1.n, .string t1.s, .slice X11 t1.kids.length x11]) := bx113
  have at014 := Lib.hid (at013.out.keep (w' := (w8).drew) (S' := Lt (w8).drew.heap.size) fun b hb => ⟨hb, rfl⟩)
  have at114 := Lib.hid (at113.out.keep (w' := (w8).drew) (S' := Lt (w8).drew.heap.size) fun b hb => ⟨hb, rfl⟩)
  have xf014 := Lib.hid (xf013.out.keep (w' := (w8).drew) (S' := Lt (w8).drew.heap.size) fun b hb => ⟨hb, rfl⟩)
  have xf114 := Lib.hid (xf113.out.keep (w' := (w8).drew) (S' := Lt (w8).drew.heap.size) fun b hb => ⟨hb, rfl⟩)
  have hcba014 := fun i => ba014.out.cell i
  have hcba114 := fun i => ba114.out.cell i
  have hcbx014 := fun i => bx014.out.cell i
  have hcbx114 := fun i => bx114.out.cell i
  go_region_held3 (fun w' => (∀ i, w'.cell? ⟨w.heap.size, i, none⟩ = (#[.int .i64 t0.op, .int .i64 t0.n, .slice A01 t0.path.length c01, .string t0.s, .slice A02 t0.kids.length c02] : Array Value)[i]?) ∧ (∀ i, w'.cell? ⟨w.heap.size + 1, i, none⟩ = (#[.int .i64 t1.kind, .int .i64 t1.n, .string t1.s, .slice A11 t1.kids.length c11] : Array Value)[i]?) ∧ (∀ i, w'.cell? ⟨w6.heap.size, i, none⟩ = (#[.int .i64 t0.op, .int .i64 t0.n, .slice X01 t0.path.length x01, .string t0.s, .slice X02 t0.kids.length x02] : Array Value)[i]?) ∧ (∀ i, w'.cell? ⟨w7.heap.size, i, none⟩ = (#[.int .i64 t1.kind, .int .i64 t1.n, .string t1.s, .slice X11 t1.kids.length x11] : Array Value)[i]?)) (first | exact ⟨hcba014, hcba114, hcbx014, hcbx114⟩ | exact ⟨hcba015, hcba115, hcbx015, hcbx115⟩ | exact ⟨hcba016, hcba116, hcbx016, hcbx116⟩) (first
    | (go_at_call 46
       refine (toTree' t0 A01 c01 A02 c02 _ hm0 at014.out).mono ?_
       rintro e w9 ⟨Y01, y01, Y02, y02, rfl, owy0, hb9⟩
       have B15 := B14.trans (hb9.mono B14.size)
       have ba015 := Lib.hid (ba014.out.below hb9 ba014.out.lt)
       have ba115 := Lib.hid (ba114.out.below hb9 ba114.out.lt)
       have bx015 := Lib.hid (bx014.out.below hb9 bx014.out.lt)
       have bx115 := Lib.hid (bx114.out.below hb9 bx114.out.lt)
       have at015 := Lib.hid (at014.out.below hb9 hb9.size)
       have at115 := Lib.hid (at114.out.below hb9 hb9.size)
       have xf015 := Lib.hid (xf014.out.below hb9 hb9.size)
       have xf115 := Lib.hid (xf114.out.below hb9 hb9.size)
       have hcba015 := fun i => ba015.out.cell i
       have hcba115 := fun i => ba115.out.cell i
       have hcbx015 := fun i => bx015.out.cell i
       have hcbx115 := fun i => bx115.out.cell i
       have yf015 := Lib.hid (owy0.at.keep fun b hb => ⟨hb.2, rfl⟩))
    | (go_at_call 48
       refine (eqTree' t0 X01 x01 X02 x02 Y01 y01 Y02 y02 _ xf015.out yf015.out).mono ?_
       rintro e w10 ⟨rfl, hb10⟩
       have B16 := B15.trans (hb10.mono B15.size)
       have ba016 := Lib.hid (ba015.out.below hb10 ba015.out.lt)
       have ba116 := Lib.hid (ba115.out.below hb10 ba115.out.lt)
       have bx016 := Lib.hid (bx015.out.below hb10 bx015.out.lt)
       have bx116 := Lib.hid (bx115.out.below hb10 bx115.out.lt)
       have at016 := Lib.hid (at015.out.below hb10 hb10.size)
       have at116 := Lib.hid (at115.out.below hb10 hb10.size)
       have xf016 := Lib.hid (xf015.out.below hb10 hb10.size)
       have xf116 := Lib.hid (xf115.out.below hb10 hb10.size)
       have yf016 := Lib.hid (yf015.out.below hb10 hb10.size)
       have hcba016 := fun i => ba016.out.cell i
       have hcba116 := fun i => ba116.out.cell i
       have hcbx016 := fun i => bx016.out.cell i
       have hcbx116 := fun i => bx116.out.cell i))
  go_wp2_with fail
  have B17 : Below w.heap.size w (w10).drew := B16.drew
  have ba017 : Hid (Row (w10).drew (w.heap.size) 70 #[.int .i64 t0.op, .int .i64 t0.n, .slice A01 t0.path.length c01, .string t0.s, .slice A02 t0.kids.length c02]) := ba016
  have ba117 : Hid (Row (w10).drew (w.heap.size + 1) 24 #[.int .i64 t1.kind, .int .i64 t1.n, .string t1.s, .slice A11 t1.kids.length c11]) := ba116
  have bx017 : Hid (Row (w10).drew (w6.heap.size) 75 #[.int .i64 t0.op, .int .i64 t0.n, .slice X01 t0.path.length x01, .string t0.s, .slice X02 t0.kids.length x02]) := bx016
  have bx117 : Hid (Row (w10).drew (w7.heap.size) 29 #[.int .i64 t1.kind, .int .i64 t1.n, .string t1.s, .slice X11 t1.kids.length x11]) := bx116
  have at017 := Lib.hid (at016.out.keep (w' := (w10).drew) (S' := Lt (w10).drew.heap.size) fun b hb => ⟨hb, rfl⟩)
  have at117 := Lib.hid (at116.out.keep (w' := (w10).drew) (S' := Lt (w10).drew.heap.size) fun b hb => ⟨hb, rfl⟩)
  have xf017 := Lib.hid (xf016.out.keep (w' := (w10).drew) (S' := Lt (w10).drew.heap.size) fun b hb => ⟨hb, rfl⟩)
  have xf117 := Lib.hid (xf116.out.keep (w' := (w10).drew) (S' := Lt (w10).drew.heap.size) fun b hb => ⟨hb, rfl⟩)
  have hcba017 := fun i => ba017.out.cell i
  have hcba117 := fun i => ba117.out.cell i
  have hcbx017 := fun i => bx017.out.cell i
  have hcbx117 := fun i => bx117.out.cell i
  go_region_held3 (fun w' => (∀ i, w'.cell? ⟨w.heap.size, i, none⟩ = (#[.int .i64 t0.op, .int .i64 t0.n, .slice A01 t0.path.length c01, .string t0.s, .slice A02 t0.kids.length c02] : Array Value)[i]?) ∧ (∀ i, w'.cell? ⟨w.heap.size + 1, i, none⟩ = (#[.int .i64 t1.kind, .int .i64 t1.n, .string t1.s, .slice A11 t1.kids.length c11] : Array Value)[i]?) ∧ (∀ i, w'.cell? ⟨w6.heap.size, i, none⟩ = (#[.int .i64 t0.op, .int .i64 t0.n, .slice X01 t0.path.length x01, .string t0.s, .slice X02 t0.kids.length x02] : Array Value)[i]?) ∧ (∀ i, w'.cell? ⟨w7.heap.size, i, none⟩ = (#[.int .i64 t1.kind, .int .i64 t1.n, .string t1.s, .slice X11 t1.kids.length x11] : Array Value)[i]?)) (first | exact ⟨hcba017, hcba117, hcbx017, hcbx117⟩ | exact ⟨hcba018, hcba118, hcbx018, hcbx118⟩ | exact ⟨hcba019, hcba119, hcbx019, hcbx119⟩) (first
    | (go_at_call 17
       refine (toValue' t1 A11 c11 _ hm1 at117.out).mono ?_
       rintro e w11 ⟨Y11, y11, rfl, owy1, hb11⟩
       have B18 := B17.trans (hb11.mono B17.size)
       have ba018 := Lib.hid (ba017.out.below hb11 ba017.out.lt)
       have ba118 := Lib.hid (ba117.out.below hb11 ba117.out.lt)
       have bx018 := Lib.hid (bx017.out.below hb11 bx017.out.lt)
       have bx118 := Lib.hid (bx117.out.below hb11 bx117.out.lt)
       have at018 := Lib.hid (at017.out.below hb11 hb11.size)
       have at118 := Lib.hid (at117.out.below hb11 hb11.size)
       have xf018 := Lib.hid (xf017.out.below hb11 hb11.size)
       have xf118 := Lib.hid (xf117.out.below hb11 hb11.size)
       have hcba018 := fun i => ba018.out.cell i
       have hcba118 := fun i => ba118.out.cell i
       have hcbx018 := fun i => bx018.out.cell i
       have hcbx118 := fun i => bx118.out.cell i
       have yf118 := Lib.hid (owy1.at.keep fun b hb => ⟨hb.2, rfl⟩))
    | (go_at_call 20
       refine (eqValue' t1 X11 x11 Y11 y11 _ xf118.out yf118.out).mono ?_
       rintro e w12 ⟨rfl, hb12⟩
       have B19 := B18.trans (hb12.mono B18.size)
       have ba019 := Lib.hid (ba018.out.below hb12 ba018.out.lt)
       have ba119 := Lib.hid (ba118.out.below hb12 ba118.out.lt)
       have bx019 := Lib.hid (bx018.out.below hb12 bx018.out.lt)
       have bx119 := Lib.hid (bx118.out.below hb12 bx118.out.lt)
       have at019 := Lib.hid (at018.out.below hb12 hb12.size)
       have at119 := Lib.hid (at118.out.below hb12 hb12.size)
       have xf019 := Lib.hid (xf018.out.below hb12 hb12.size)
       have xf119 := Lib.hid (xf118.out.below hb12 hb12.size)
       have yf119 := Lib.hid (yf118.out.below hb12 hb12.size)
       have hcba019 := fun i => ba019.out.cell i
       have hcba119 := fun i => ba119.out.cell i
       have hcbx019 := fun i => bx019.out.cell i
       have hcbx119 := fun i => bx119.out.cell i))
  go_wp2_with fail
  go_ret
  exact ⟨rfl, B19⟩
end Go.Proofs.Ytnjindgpmacjmaa
