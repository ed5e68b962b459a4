/- The walk of the law FnExactTreeOk. Conditions: none. -/
import Derived.Test.YtjcgfbjdailgoaaTreeOk
import Derived.Test.YtjcgfbjdailgoaaAData
import Derived.Test.YtjcgfbjdailgoaaATree
import Derived.Deep.RegionHeld3
namespace Go.Proofs.Ytjcgfbjdailgoaa
open Go.RowKit
set_option linter.unusedVariables false
set_option linter.unusedSimpArgs false
set_option maxHeartbeats 2000000

set_option maxRecDepth 20000 in
theorem walkExactTreeOk (t0 : List GData) (A0 : Option Addr) (c0 : Nat) (t1 : GTree) (A11 : Option Addr) (c11 : Nat) (A12 : Option Addr) (c12 : Nat) (w : World) (hat0 : Sl w (Lt w.heap.size) 3 A0 c0 (t0.map GData.toD)) (hat1 : GTree.At w (Lt w.heap.size) A11 c11 A12 c12 t1) :
    Calls Try.prog 6 #[.slice A0 t0.length c0, .agg #[.int .i64 t1.op, .int .i64 t1.n, .slice A11 t1.path.length c11, .string t1.s, .slice A12 t1.kids.length c12]] w fun e w' => e = .returned (.bool true) ∧ Below w.heap.size w w' := by
  have B0 : Below w.heap.size w w := Below.refl _ _
  have at00 := Lib.hid hat0
  have at10 := Lib.hid hat1
  clear hat0
  clear hat1
  have E1 : Below (w).heap.size (w) (w.alloc (.cells #[.int .i64 t1.op, .int .i64 t1.n, .slice A11 t1.path.length c11, .string t1.s, .slice A12 t1.kids.length c12] 62)) := (Below.refl _ _).alloc (Nat.le_refl _) _
  have B1 : Below w.heap.size w (w.alloc (.cells #[.int .i64 t1.op, .int .i64 t1.n, .slice A11 t1.path.length c11, .string t1.s, .slice A12 t1.kids.length c12] 62)) := B0.alloc B0.size _
  have ba11 := Lib.hid (Row.new' (w) 62 #[.int .i64 t1.op, .int .i64 t1.n, .slice A11 t1.path.length c11, .string t1.s, .slice A12 t1.kids.length c12] (g := w.heap.size) rfl)
  have at01 := Lib.hid (at00.out.below E1 E1.size)
  have at11 := Lib.hid (at10.out.below E1 E1.size)
  go_enter Try.func6, Try.ntmps6
  go_wp2_with fail
  refine (szDataS' t0 A0 c0 (1048576) _ at01.out (by omega) (by omega)).mono ?_
  rintro e w1 ⟨rfl, hb1⟩
  have B2 := B1.trans (hb1.mono B1.size)
  have ba12 := Lib.hid (ba11.out.below hb1 ba11.out.lt)
  have at02 := Lib.hid (at01.out.below hb1 hb1.size)
  have at12 := Lib.hid (at11.out.below hb1 hb1.size)
  have hcba12 := fun i => ba12.out.cell i
  by_cases hk0 : ((bulkL GData.bulk t0 : Nat) : Int) ≤ 1048576
  rotate_left
  · have hv := szv_gt (b := bulkL GData.bulk t0) (left := 1048576) (by omega)
    go_wp2_with fail
    go_ret
    exact ⟨rfl, B2⟩
  have hv0 := szv_le hk0
  have hge0 : 0 ≤ 1048576 - ((bulkL GData.bulk t0 : Nat) : Int) := by omega
  have hm0 : bulkL GData.bulk t0 ≤ 1048576 := by omega
  go_wp2_with fail
  refine (szTree' t1 A11 c11 A12 c12 (1048576 - ((bulkL GData.bulk t0 : Nat) : Int)) _ (by omega) (by omega) at12.out).mono ?_
  rintro e w2 ⟨rfl, hb2⟩
  have B3 := B2.trans (hb2.mono B2.size)
  have ba13 := Lib.hid (ba12.out.below hb2 ba12.out.lt)
  have at03 := Lib.hid (at02.out.below hb2 hb2.size)
  have at13 := Lib.hid (at12.out.below hb2 hb2.size)
  have hcba13 := fun i => ba13.out.cell i
  by_cases hk1 : ((t1.bulk : Nat) : Int) ≤ 1048576 - ((bulkL GData.bulk t0 : Nat) : Int)
  rotate_left
  · have hv := szv_gt (b := t1.bulk) (left := 1048576 - ((bulkL GData.bulk t0 : Nat) : Int)) (by omega)
    go_wp2_with fail
    go_ret
    exact ⟨rfl, B3⟩
  have hv1 := szv_le hk1
  have hge1 : 0 ≤ 1048576 - ((bulkL GData.bulk t0 : Nat) : Int) - ((t1.bulk : Nat) : Int) := by omega
  have hm1 : t1.bulk ≤ 1048576 := by omega
  go_wp2_with fail
  have B4 : Below w.heap.size w (w2).drew := B3.drew
  have ba14 : Hid (Row (w2).drew (w.heap.size) 62 #[.int .i64 t1.op, .int .i64 t1.n, .slice A11 t1.path.length c11, .string t1.s, .slice A12 t1.kids.length c12]) := ba13
  have at04 := Lib.hid (at03.out.keep (w' := (w2).drew) (S' := Lt (w2).drew.heap.size) fun b hb => ⟨hb, rfl⟩)
  have at14 := Lib.hid (at13.out.keep (w' := (w2).drew) (S' := Lt (w2).drew.heap.size) fun b hb => ⟨hb, rfl⟩)
  have hcba14 := fun i => ba14.out.cell i
  go_region_held3 (fun w' => (∀ i, w'.cell? ⟨w.heap.size, i, none⟩ = (#[.int .i64 t1.op, .int .i64 t1.n, .slice A11 t1.path.length c11, .string t1.s, .slice A12 t1.kids.length c12] : Array Value)[i]?)) (first | exact hcba14 | exact hcba15 | exact hcba16 | exact hcba17) (first
    | (go_at_call_of 38 t0
       refine (toDataS' t0 A0 c0 _ at04.out hm0).mono ?_
       rintro e w3 ⟨D01, d01, rfl, owd0, hb3⟩
       have B5 := B4.trans (hb3.mono B4.size)
       have ba15 := Lib.hid (ba14.out.below hb3 ba14.out.lt)
       have at05 := Lib.hid (at04.out.below hb3 hb3.size)
       have at15 := Lib.hid (at14.out.below hb3 hb3.size)
       have hcba15 := fun i => ba15.out.cell i
       have df05 := Lib.hid (owd0.slLt))
    | (go_at_call_of 39 t1
       refine (toTree' t1 A11 c11 A12 c12 _ hm1 at15.out).mono ?_
       rintro e w4 ⟨D11, d11, D12, d12, rfl, owd1, hb4⟩
       have B6 := B5.trans (hb4.mono B5.size)
       have ba16 := Lib.hid (ba15.out.below hb4 ba15.out.lt)
       have at06 := Lib.hid (at05.out.below hb4 hb4.size)
       have at16 := Lib.hid (at15.out.below hb4 hb4.size)
       have df06 := Lib.hid (df05.out.below hb4 hb4.size)
       have hcba16 := fun i => ba16.out.cell i
       have df16 := Lib.hid (owd1.at.keep fun b hb => ⟨hb.2, rfl⟩))
    | (go_at_call 37
       refine (specTreeOk t0 D01 d01 t1 D11 d11 D12 d12 _ (by have := t1.nodes_bulk; omega) (Nat.le_trans (consN_bulk t0) hm0) df06.out df16.out).mono ?_
       rintro e w5 ⟨rfl, hb5⟩
       have B7 := B6.trans (hb5.mono B6.size)
       have ba17 := Lib.hid (ba16.out.below hb5 ba16.out.lt)
       have at07 := Lib.hid (at06.out.below hb5 hb5.size)
       have at17 := Lib.hid (at16.out.below hb5 hb5.size)
       have df07 := Lib.hid (df06.out.below hb5 hb5.size)
       have df17 := Lib.hid (df16.out.below hb5 hb5.size)
       have hcba17 := fun i => ba17.out.cell i))
  go_wp2_with fail
  refine (toDataS' t0 A0 c0 _ at07.out hm0).mono ?_
  rintro e w6 ⟨X01, x01, rfl, owx0, hb6⟩
  have B8 := B7.trans (hb6.mono B7.size)
  have ba18 := Lib.hid (ba17.out.below hb6 ba17.out.lt)
  have at08 := Lib.hid (at07.out.below hb6 hb6.size)
  have at18 := Lib.hid (at17.out.below hb6 hb6.size)
  have hcba18 := fun i => ba18.out.cell i
  have xf08 := Lib.hid (owx0.slLt)
  go_wp2_with fail
  refine (toTree' t1 A11 c11 A12 c12 _ hm1 at18.out).mono ?_
  rintro e w7 ⟨X11, x11, X12, x12, rfl, owx1, hb7⟩
  have B9 := B8.trans (hb7.mono B8.size)
  have ba19 := Lib.hid (ba18.out.below hb7 ba18.out.lt)
  have at09 := Lib.hid (at08.out.below hb7 hb7.size)
  have at19 := Lib.hid (at18.out.below hb7 hb7.size)
  have xf09 := Lib.hid (xf08.out.below hb7 hb7.size)
  have hcba19 := fun i => ba19.out.cell i
  have xf19 := Lib.hid (owx1.at.keep fun b hb => ⟨hb.2, rfl⟩)
  have E10 : Below (w7).heap.size (w7) (w7.alloc (.cells #[.int .i64 t1.op, .int .i64 t1.n, .slice X11 t1.path.length x11, .string t1.s, .slice X12 t1.kids.length x12] 70)) := (Below.refl _ _).alloc (Nat.le_refl _) _
  have B10 : Below w.heap.size w (w7.alloc (.cells #[.int .i64 t1.op, .int .i64 t1.n, .slice X11 t1.path.length x11, .string t1.s, .slice X12 t1.kids.length x12] 70)) := B9.alloc B9.size _
  have ba110 := Lib.hid (Row.alloc ba19.out (.cells #[.int .i64 t1.op, .int .i64 t1.n, .slice X11 t1.path.length x11, .string t1.s, .slice X12 t1.kids.length x12] 70))
  have bx110 := Lib.hid (Row.new' (w7) 70 #[.int .i64 t1.op, .int .i64 t1.n, .slice X11 t1.path.length x11, .string t1.s, .slice X12 t1.kids.length x12] (g := w7.heap.size) rfl)
  have at010 := Lib.hid (at09.out.below E10 E10.size)
  have at110 := Lib.hid (at19.out.below E10 E10.size)
  have xf010 := Lib.hid (xf09.out.below E10 E10.size)
  have xf110 := Lib.hid (xf19.out.below E10 E10.size)
  have hcba110 := fun i => ba110.out.cell i
  have hcbx110 := fun i => bx110.out.cell i
  go_wp2_with fail
  refine (implTreeOk t0 X01 x01 t1 X11 x11 X12 x12 _ (by have := t1.nodes_bulk; omega) (Nat.le_trans (consN_bulk t0) hm0) xf010.out xf110.out).mono ?_
  rintro e w8 ⟨rfl, hb8⟩
  have B11 := B10.trans (hb8.mono B10.size)
  have ba111 := Lib.hid (ba110.out.below hb8 ba110.out.lt)
  have bx111 := Lib.hid (bx110.out.below hb8 bx110.out.lt)
  have at011 := Lib.hid (at010.out.below hb8 hb8.size)
  have at111 := Lib.hid (at110.out.below hb8 hb8.size)
  have xf011 := Lib.hid (xf010.out.below hb8 hb8.size)
  have xf111 := Lib.hid (xf110.out.below hb8 hb8.size)
  have hcba111 := fun i => ba111.out.cell i
  have hcbx111 := fun i => bx111.out.cell i
  go_wp2_with fail
  refine (toDataS' t0 A0 c0 _ at011.out hm0).mono ?_
  rintro e w9 ⟨Y01, y01, rfl, owy0, hb9⟩
  have B12 := B11.trans (hb9.mono B11.size)
  have ba112 := Lib.hid (ba111.out.below hb9 ba111.out.lt)
  have bx112 := Lib.hid (bx111.out.below hb9 bx111.out.lt)
  have at012 := Lib.hid (at011.out.below hb9 hb9.size)
  have at112 := Lib.hid (at111.out.below hb9 hb9.size)
  have xf012 := Lib.hid (xf011.out.below hb9 hb9.size)
  have xf112 := Lib.hid (xf111.out.below hb9 hb9.size)
  have hcba112 := fun i => ba112.out.cell i
  have hcbx112 := fun i => bx112.out.cell i
  have yf012 := Lib.hid (owy0.slLt)
  go_wp2_with fail
  refine (eqDataS' t0 X01 Y01 x01 y01 _ xf012.out yf012.out).mono ?_
  rintro e w10 ⟨rfl, hb10⟩
  have B13 := B12.trans (hb10.mono B12.size)
  have ba113 := Lib.hid (ba112.out.below hb10 ba112.out.lt)
  have bx113 := Lib.hid (bx112.out.below hb10 bx112.out.lt)
  have at013 := Lib.hid (at012.out.below hb10 hb10.size)
  have at113 := Lib.hid (at112.out.below hb10 hb10.size)
  have xf013 := Lib.hid (xf012.out.below hb10 hb10.size)
  have xf113 := Lib.hid (xf112.out.below hb10 hb10.size)
  have yf013 := Lib.hid (yf012.out.below hb10 hb10.size)
  have hcba113 := fun i => ba113.out.cell i
  have hcbx113 := fun i => bx113.out.cell i
  go_wp2_with fail
  have B14 : Below w.heap.size w (w10).drew := B13.drew
  have ba114 : Hid (Row (w10).drew (w.heap.size) 62 #[.int .i64 t1.op, .int .i64 t1.n, .slice A11 t1.path.length c11, .string t1.s, .slice A12 t1.kids.length c12]) := ba113
  have bx114 : Hid (Row (w10).drew (w7.heap.size) 70 #[.int .i64 t1.op, .int .i64 t1.n, .slice X11 t1.path.length x11, .string t1.s, .slice X12 t1.kids.length x12]) := bx113
  have at014 := Lib.hid (at013.out.keep (w' := (w10).drew) (S' := Lt (w10).drew.heap.size) fun b hb => ⟨hb, rfl⟩)
  have at114 := Lib.hid (at113.out.keep (w' := (w10).drew) (S' := Lt (w10).drew.heap.size) fun b hb => ⟨hb, rfl⟩)
  have xf014 := Lib.hid (xf013.out.keep (w' := (w10).drew) (S' := Lt (w10).drew.heap.size) fun b hb => ⟨hb, rfl⟩)
  have xf114 := Lib.hid (xf113.out.keep (w' := (w10).drew) (S' := Lt (w10).drew.heap.size) fun b hb => ⟨hb, rfl⟩)
  have hcba114 := fun i => ba114.out.cell i
  have hcbx114 := fun i => bx114.out.cell i
  go_region_held3 (fun w' => (∀ i, w'.cell? ⟨w.heap.size, i, none⟩ = (#[.int .i64 t1.op, .int .i64 t1.n, .slice A11 t1.path.length c11, .string t1.s, .slice A12 t1.kids.length c12] : Array Value)[i]?) ∧ (∀ i, w'.cell? ⟨w7.heap.size, i, none⟩ = (#[.int .i64 t1.op, .int .i64 t1.n, .slice X11 t1.path.length x11, .string t1.s, .slice X12 t1.kids.length x12] : Array Value)[i]?)) (first | exact ⟨hcba114, hcbx114⟩ | exact ⟨hcba115, hcbx115⟩ | exact ⟨hcba116, hcbx116⟩) (first
    | (go_at_call 39
       refine (toTree' t1 A11 c11 A12 c12 _ hm1 at114.out).mono ?_
       rintro e w11 ⟨Y11, y11, Y12, y12, rfl, owy1, hb11⟩
       have B15 := B14.trans (hb11.mono B14.size)
       have ba115 := Lib.hid (ba114.out.below hb11 ba114.out.lt)
       have bx115 := Lib.hid (bx114.out.below hb11 bx114.out.lt)
       have at015 := Lib.hid (at014.out.below hb11 hb11.size)
       have at115 := Lib.hid (at114.out.below hb11 hb11.size)
       have xf015 := Lib.hid (xf014.out.below hb11 hb11.size)
       have xf115 := Lib.hid (xf114.out.below hb11 hb11.size)
       have hcba115 := fun i => ba115.out.cell i
       have hcbx115 := fun i => bx115.out.cell i
       have yf115 := Lib.hid (owy1.at.keep fun b hb => ⟨hb.2, rfl⟩))
    | (go_at_call 42
       refine (eqTree' t1 X11 x11 X12 x12 Y11 y11 Y12 y12 _ xf115.out yf115.out).mono ?_
       rintro e w12 ⟨rfl, hb12⟩
       have B16 := B15.trans (hb12.mono B15.size)
       have ba116 := Lib.hid (ba115.out.below hb12 ba115.out.lt)
       have bx116 := Lib.hid (bx115.out.below hb12 bx115.out.lt)
       have at016 := Lib.hid (at015.out.below hb12 hb12.size)
       have at116 := Lib.hid (at115.out.below hb12 hb12.size)
       have xf016 := Lib.hid (xf015.out.below hb12 hb12.size)
       have xf116 := Lib.hid (xf115.out.below hb12 hb12.size)
       have yf116 := Lib.hid (yf115.out.below hb12 hb12.size)
       have hcba116 := fun i => ba116.out.cell i
       have hcbx116 := fun i => bx116.out.cell i))
  go_wp2_with fail
  go_ret
  exact ⟨rfl, B16⟩
end Go.Proofs.Ytjcgfbjdailgoaa
