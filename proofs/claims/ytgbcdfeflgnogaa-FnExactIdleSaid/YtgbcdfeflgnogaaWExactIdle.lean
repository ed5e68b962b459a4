/- The walk of the law FnExactIdle. Conditions: none. -/
import Derived.Test.YtgbcdfeflgnogaaCoverI
import Derived.Test.YtgbcdfeflgnogaaAData
import Derived.Test.YtgbcdfeflgnogaaANode
import Derived.Deep.RegionHeld3
namespace Go.Proofs.Ytgbcdfeflgnogaa
open Go.RowKit
set_option linter.unusedVariables false
set_option linter.unusedSimpArgs false
set_option maxHeartbeats 2000000

set_option maxRecDepth 20000 in
theorem walkExactIdle (t0 : List GData) (A0 : Option Addr) (c0 : Nat) (t1 : List GNode) (A1 : Option Addr) (c1 : Nat) (w : World) (hat0 : Sl w (Lt w.heap.size) 3 A0 c0 (t0.map GData.toD)) (hat1 : Sl w (Lt w.heap.size) 5 A1 c1 (t1.map GNode.toD)) :
    Calls Try.prog 5 #[.slice A0 t0.length c0, .slice A1 t1.length c1] w fun e w' => e = .returned (.bool true) ∧ Below w.heap.size w w' := by
  have B0 : Below w.heap.size w w := Below.refl _ _
  have at00 := Lib.hid hat0
  have at10 := Lib.hid hat1
  clear hat0
  clear hat1
  go_enter Try.func5, Try.ntmps5
  go_wp2_with fail
  refine (szDataS' t0 A0 c0 (1048576) _ at00.out (by omega) (by omega)).mono ?_
  rintro e w1 ⟨rfl, hb1⟩
  have B1 := B0.trans (hb1.mono B0.size)
  have at01 := Lib.hid (at00.out.below hb1 hb1.size)
  have at11 := Lib.hid (at10.out.below hb1 hb1.size)
  by_cases hk0 : ((bulkL GData.bulk t0 : Nat) : Int) ≤ 1048576
  rotate_left
  · have hv := szv_gt (b := bulkL GData.bulk t0) (left := 1048576) (by omega)
    go_wp2_with fail
    go_ret
    exact ⟨rfl, B1⟩
  have hv0 := szv_le hk0
  have hge0 : 0 ≤ 1048576 - ((bulkL GData.bulk t0 : Nat) : Int) := by omega
  have hm0 : bulkL GData.bulk t0 ≤ 1048576 := by omega
  go_wp2_with fail
  refine (szNodeS' t1 A1 c1 (1048576 - ((bulkL GData.bulk t0 : Nat) : Int)) _ at11.out (by omega) (by omega)).mono ?_
  rintro e w2 ⟨rfl, hb2⟩
  have B2 := B1.trans (hb2.mono B1.size)
  have at02 := Lib.hid (at01.out.below hb2 hb2.size)
  have at12 := Lib.hid (at11.out.below hb2 hb2.size)
  by_cases hk1 : ((bulkL GNode.bulk t1 : Nat) : Int) ≤ 1048576 - ((bulkL GData.bulk t0 : Nat) : Int)
  rotate_left
  · have hv := szv_gt (b := bulkL GNode.bulk t1) (left := 1048576 - ((bulkL GData.bulk t0 : Nat) : Int)) (by omega)
    go_wp2_with fail
    go_ret
    exact ⟨rfl, B2⟩
  have hv1 := szv_le hk1
  have hge1 : 0 ≤ 1048576 - ((bulkL GData.bulk t0 : Nat) : Int) - ((bulkL GNode.bulk t1 : Nat) : Int) := by omega
  have hm1 : bulkL GNode.bulk t1 ≤ 1048576 := by omega
  go_wp2_with fail
  refine (toDataS' t0 A0 c0 _ at02.out hm0).mono ?_
  rintro e w3 ⟨D01, d01, rfl, owd0, hb3⟩
  have B3 := B2.trans (hb3.mono B2.size)
  have at03 := Lib.hid (at02.out.below hb3 hb3.size)
  have at13 := Lib.hid (at12.out.below hb3 hb3.size)
  have df03 := Lib.hid (owd0.slLt)
  go_wp2_with fail
  refine (toNodeS' t1 A1 c1 _ at13.out hm1).mono ?_
  rintro e w4 ⟨D11, d11, rfl, owd1, hb4⟩
  have B4 := B3.trans (hb4.mono B3.size)
  have at04 := Lib.hid (at03.out.below hb4 hb4.size)
  have at14 := Lib.hid (at13.out.below hb4 hb4.size)
  have df04 := Lib.hid (df03.out.below hb4 hb4.size)
  have df14 := Lib.hid (owd1.slLt)
  go_wp2_with fail
  refine (specIdle t0 D01 d01 t1 D11 d11 _ hm0 hm1 df04.out df14.out).mono ?_
  rintro e w5 ⟨rfl, hb5⟩
  have B5 := B4.trans (hb5.mono B4.size)
  have at05 := Lib.hid (at04.out.below hb5 hb5.size)
  have at15 := Lib.hid (at14.out.below hb5 hb5.size)
  have df05 := Lib.hid (df04.out.below hb5 hb5.size)
  have df15 := Lib.hid (df14.out.below hb5 hb5.size)
  go_wp2_with fail
  refine (toDataS' t0 A0 c0 _ at05.out hm0).mono ?_
  rintro e w6 ⟨X01, x01, rfl, owx0, hb6⟩
  have B6 := B5.trans (hb6.mono B5.size)
  have at06 := Lib.hid (at05.out.below hb6 hb6.size)
  have at16 := Lib.hid (at15.out.below hb6 hb6.size)
  have xf06 := Lib.hid (owx0.slLt)
  go_wp2_with fail
  refine (toNodeS' t1 A1 c1 _ at16.out hm1).mono ?_
  rintro e w7 ⟨X11, x11, rfl, owx1, hb7⟩
  have B7 := B6.trans (hb7.mono B6.size)
  have at07 := Lib.hid (at06.out.below hb7 hb7.size)
  have at17 := Lib.hid (at16.out.below hb7 hb7.size)
  have xf07 := Lib.hid (xf06.out.below hb7 hb7.size)
  have xf17 := Lib.hid (owx1.slLt)
  go_wp2_with fail
  refine (implIdle t0 X01 x01 t1 X11 x11 _ hm0 hm1 xf07.out xf17.out).mono ?_
  rintro e w8 ⟨rfl, hb8⟩
  have B8 := B7.trans (hb8.mono B7.size)
  have at08 := Lib.hid (at07.out.below hb8 hb8.size)
  have at18 := Lib.hid (at17.out.below hb8 hb8.size)
  have xf08 := Lib.hid (xf07.out.below hb8 hb8.size)
  have xf18 := Lib.hid (xf17.out.below hb8 hb8.size)
  rw [idle_eq]
  generalize idleG patOf t0 t1 = x
  have hx1 : (x != x) = false := by simp
  go_wp2_with fail
  refine (toDataS' t0 A0 c0 _ at08.out hm0).mono ?_
  rintro e w9 ⟨Y01, y01, rfl, owy0, hb9⟩
  have B9 := B8.trans (hb9.mono B8.size)
  have at09 := Lib.hid (at08.out.below hb9 hb9.size)
  have at19 := Lib.hid (at18.out.below hb9 hb9.size)
  have xf09 := Lib.hid (xf08.out.below hb9 hb9.size)
  have xf19 := Lib.hid (xf18.out.below hb9 hb9.size)
  have yf09 := Lib.hid (owy0.slLt)
  go_wp2_with fail
  refine (eqDataS' t0 X01 Y01 x01 y01 _ xf09.out yf09.out).mono ?_
  rintro e w10 ⟨rfl, hb10⟩
  have B10 := B9.trans (hb10.mono B9.size)
  have at010 := Lib.hid (at09.out.below hb10 hb10.size)
  have at110 := Lib.hid (at19.out.below hb10 hb10.size)
  have xf010 := Lib.hid (xf09.out.below hb10 hb10.size)
  have xf110 := Lib.hid (xf19.out.below hb10 hb10.size)
  have yf010 := Lib.hid (yf09.out.below hb10 hb10.size)
  go_wp2_with fail
  refine (toNodeS' t1 A1 c1 _ at110.out hm1).mono ?_
  rintro e w11 ⟨Y11, y11, rfl, owy1, hb11⟩
  have B11 := B10.trans (hb11.mono B10.size)
  have at011 := Lib.hid (at010.out.below hb11 hb11.size)
  have at111 := Lib.hid (at110.out.below hb11 hb11.size)
  have xf011 := Lib.hid (xf010.out.below hb11 hb11.size)
  have xf111 := Lib.hid (xf110.out.below hb11 hb11.size)
  have yf111 := Lib.hid (owy1.slLt)
  go_wp2_with fail
  refine (eqNodeS' t1 X11 Y11 x11 y11 _ xf111.out yf111.out).mono ?_
  rintro e w12 ⟨rfl, hb12⟩
  have B12 := B11.trans (hb12.mono B11.size)
  have at012 := Lib.hid (at011.out.below hb12 hb12.size)
  have at112 := Lib.hid (at111.out.below hb12 hb12.size)
  have xf012 := Lib.hid (xf011.out.below hb12 hb12.size)
  have xf112 := Lib.hid (xf111.out.below hb12 hb12.size)
  have yf112 := Lib.hid (yf111.out.below hb12 hb12.size)
  go_wp2_with fail
  go_ret
  exact ⟨rfl, B12⟩
end Go.Proofs.Ytgbcdfeflgnogaa
