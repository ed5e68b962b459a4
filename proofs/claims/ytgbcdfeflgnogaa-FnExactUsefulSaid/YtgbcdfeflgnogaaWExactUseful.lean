/- The walk of the law FnExactUseful. Conditions: none. -/
import Derived.Test.YtgbcdfeflgnogaaCoverK
import Derived.Test.YtgbcdfeflgnogaaAData
import Derived.Test.YtgbcdfeflgnogaaANode
import Derived.Deep.RegionHeld3
namespace Go.Proofs.Ytgbcdfeflgnogaa
open Go.RowKit
set_option linter.unusedVariables false
set_option linter.unusedSimpArgs false
set_option maxHeartbeats 2000000

set_option maxRecDepth 20000 in
theorem walkExactUseful (t0 : List GData) (A0 : Option Addr) (c0 : Nat) (t1 : List (List GNode)) (A1 : Option Addr) (c1 : Nat) (t2 : List GNode) (A2 : Option Addr) (c2 : Nat) (w : World) (hat0 : Sl w (Lt w.heap.size) 3 A0 c0 (t0.map GData.toD)) (hat1 : Sl w (Lt w.heap.size) 1 A1 c1 (t1.map rowD)) (hat2 : Sl w (Lt w.heap.size) 5 A2 c2 (t2.map GNode.toD)) :
    Calls Try.prog 4 #[.slice A0 t0.length c0, .slice A1 t1.length c1, .slice A2 t2.length c2] w fun e w' => e = .returned (.bool true) ∧ Below w.heap.size w w' := by
  have B0 : Below w.heap.size w w := Below.refl _ _
  have at00 := Lib.hid hat0
  have at10 := Lib.hid hat1
  have at20 := Lib.hid hat2
  clear hat0
  clear hat1
  clear hat2
  go_enter Try.func4, Try.ntmps4
  go_wp2_with fail
  refine (szDataS' t0 A0 c0 (1048576) _ at00.out (by omega) (by omega)).mono ?_
  rintro e w1 ⟨rfl, hb1⟩
  have B1 := B0.trans (hb1.mono B0.size)
  have at01 := Lib.hid (at00.out.below hb1 hb1.size)
  have at11 := Lib.hid (at10.out.below hb1 hb1.size)
  have at21 := Lib.hid (at20.out.below hb1 hb1.size)
  by_cases hk0 : ((bulkL GData.bulk t0 : Nat) : Int) ≤ 1048576
  rotate_left
  · have hv := szv_gt (b := bulkL GData.bulk t0) (left := 1048576) (by omega)
    go_wp2_with fail
    go_ret
    exact ⟨rfl, B1⟩
  have hv0 := szv_le hk0
  have hge0 : 0 ≤ 1048576 - ((bulkL GData.bulk t0 : Nat) : Int) := by omega
  have hm0 : bulkL GData.bulk t0 ≤ 1048576 := by omega
  go_wp2_with fail
  refine (szNodeSS' t1 A1 c1 (1048576 - ((bulkL GData.bulk t0 : Nat) : Int)) _ at11.out (by omega) (by omega)).mono ?_
  rintro e w2 ⟨rfl, hb2⟩
  have B2 := B1.trans (hb2.mono B1.size)
  have at02 := Lib.hid (at01.out.below hb2 hb2.size)
  have at12 := Lib.hid (at11.out.below hb2 hb2.size)
  have at22 := Lib.hid (at21.out.below hb2 hb2.size)
  by_cases hk1 : ((bulkL rowBulk t1 : Nat) : Int) ≤ 1048576 - ((bulkL GData.bulk t0 : Nat) : Int)
  rotate_left
  · have hv := szv_gt (b := bulkL rowBulk t1) (left := 1048576 - ((bulkL GData.bulk t0 : Nat) : Int)) (by omega)
    go_wp2_with fail
    go_ret
    exact ⟨rfl, B2⟩
  have hv1 := szv_le hk1
  have hge1 : 0 ≤ 1048576 - ((bulkL GData.bulk t0 : Nat) : Int) - ((bulkL rowBulk t1 : Nat) : Int) := by omega
  have hm1 : bulkL rowBulk t1 ≤ 1048576 := by omega
  go_wp2_with fail
  refine (szNodeS' t2 A2 c2 (1048576 - ((bulkL GData.bulk t0 : Nat) : Int) - ((bulkL rowBulk t1 : Nat) : Int)) _ at22.out (by omega) (by omega)).mono ?_
  rintro e w3 ⟨rfl, hb3⟩
  have B3 := B2.trans (hb3.mono B2.size)
  have at03 := Lib.hid (at02.out.below hb3 hb3.size)
  have at13 := Lib.hid (at12.out.below hb3 hb3.size)
  have at23 := Lib.hid (at22.out.below hb3 hb3.size)
  by_cases hk2 : ((bulkL GNode.bulk t2 : Nat) : Int) ≤ 1048576 - ((bulkL GData.bulk t0 : Nat) : Int) - ((bulkL rowBulk t1 : Nat) : Int)
  rotate_left
  · have hv := szv_gt (b := bulkL GNode.bulk t2) (left := 1048576 - ((bulkL GData.bulk t0 : Nat) : Int) - ((bulkL rowBulk t1 : Nat) : Int)) (by omega)
    go_wp2_with fail
    go_ret
    exact ⟨rfl, B3⟩
  have hv2 := szv_le hk2
  have hge2 : 0 ≤ 1048576 - ((bulkL GData.bulk t0 : Nat) : Int) - ((bulkL rowBulk t1 : Nat) : Int) - ((bulkL GNode.bulk t2 : Nat) : Int) := by omega
  have hm2 : bulkL GNode.bulk t2 ≤ 1048576 := by omega
  go_wp2_with fail
  refine (toDataS' t0 A0 c0 _ at03.out hm0).mono ?_
  rintro e w4 ⟨D01, d01, rfl, owd0, hb4⟩
  have B4 := B3.trans (hb4.mono B3.size)
  have at04 := Lib.hid (at03.out.below hb4 hb4.size)
  have at14 := Lib.hid (at13.out.below hb4 hb4.size)
  have at24 := Lib.hid (at23.out.below hb4 hb4.size)
  have df04 := Lib.hid (owd0.slLt)
  go_wp2_with fail
  refine (toNodeSS' t1 A1 c1 _ at14.out hm1).mono ?_
  rintro e w5 ⟨D11, d11, rfl, owd1, hb5⟩
  have B5 := B4.trans (hb5.mono B4.size)
  have at05 := Lib.hid (at04.out.below hb5 hb5.size)
  have at15 := Lib.hid (at14.out.below hb5 hb5.size)
  have at25 := Lib.hid (at24.out.below hb5 hb5.size)
  have df05 := Lib.hid (df04.out.below hb5 hb5.size)
  have df15 := Lib.hid (owd1.slLt)
  go_wp2_with fail
  refine (toNodeS' t2 A2 c2 _ at25.out hm2).mono ?_
  rintro e w6 ⟨D21, d21, rfl, owd2, hb6⟩
  have B6 := B5.trans (hb6.mono B5.size)
  have at06 := Lib.hid (at05.out.below hb6 hb6.size)
  have at16 := Lib.hid (at15.out.below hb6 hb6.size)
  have at26 := Lib.hid (at25.out.below hb6 hb6.size)
  have df06 := Lib.hid (df05.out.below hb6 hb6.size)
  have df16 := Lib.hid (df15.out.below hb6 hb6.size)
  have df26 := Lib.hid (owd2.slLt)
  go_wp2_with fail
  refine (specUsefulT t0 D01 d01 t1 D11 d11 t2 D21 d21 _ hm0 (Nat.le_trans (bulkL_len rowBulk t1) hm1) (Nat.le_trans (bulkL_len GNode.bulk t2) hm2) (rows_B hm1) (nodes_B hm2) ⟨df06.out, df16.out, df26.out⟩).mono ?_
  rintro e w7 ⟨rfl, hb7⟩
  have B7 := B6.trans (hb7.mono B6.size)
  have at07 := Lib.hid (at06.out.below hb7 hb7.size)
  have at17 := Lib.hid (at16.out.below hb7 hb7.size)
  have at27 := Lib.hid (at26.out.below hb7 hb7.size)
  have df07 := Lib.hid (df06.out.below hb7 hb7.size)
  have df17 := Lib.hid (df16.out.below hb7 hb7.size)
  have df27 := Lib.hid (df26.out.below hb7 hb7.size)
  go_wp2_with fail
  refine (toDataS' t0 A0 c0 _ at07.out hm0).mono ?_
  rintro e w8 ⟨X01, x01, rfl, owx0, hb8⟩
  have B8 := B7.trans (hb8.mono B7.size)
  have at08 := Lib.hid (at07.out.below hb8 hb8.size)
  have at18 := Lib.hid (at17.out.below hb8 hb8.size)
  have at28 := Lib.hid (at27.out.below hb8 hb8.size)
  have xf08 := Lib.hid (owx0.slLt)
  go_wp2_with fail
  refine (toNodeSS' t1 A1 c1 _ at18.out hm1).mono ?_
  rintro e w9 ⟨X11, x11, rfl, owx1, hb9⟩
  have B9 := B8.trans (hb9.mono B8.size)
  have at09 := Lib.hid (at08.out.below hb9 hb9.size)
  have at19 := Lib.hid (at18.out.below hb9 hb9.size)
  have at29 := Lib.hid (at28.out.below hb9 hb9.size)
  have xf09 := Lib.hid (xf08.out.below hb9 hb9.size)
  have xf19 := Lib.hid (owx1.slLt)
  go_wp2_with fail
  refine (toNodeS' t2 A2 c2 _ at29.out hm2).mono ?_
  rintro e w10 ⟨X21, x21, rfl, owx2, hb10⟩
  have B10 := B9.trans (hb10.mono B9.size)
  have at010 := Lib.hid (at09.out.below hb10 hb10.size)
  have at110 := Lib.hid (at19.out.below hb10 hb10.size)
  have at210 := Lib.hid (at29.out.below hb10 hb10.size)
  have xf010 := Lib.hid (xf09.out.below hb10 hb10.size)
  have xf110 := Lib.hid (xf19.out.below hb10 hb10.size)
  have xf210 := Lib.hid (owx2.slLt)
  go_wp2_with fail
  refine (implUsefulT t0 X01 x01 t1 X11 x11 t2 X21 x21 _ hm0 (Nat.le_trans (bulkL_len rowBulk t1) hm1) (Nat.le_trans (bulkL_len GNode.bulk t2) hm2) (rows_B hm1) (nodes_B hm2) ⟨xf010.out, xf110.out, xf210.out⟩).mono ?_
  rintro e w11 ⟨rfl, hb11⟩
  have B11 := B10.trans (hb11.mono B10.size)
  have at011 := Lib.hid (at010.out.below hb11 hb11.size)
  have at111 := Lib.hid (at110.out.below hb11 hb11.size)
  have at211 := Lib.hid (at210.out.below hb11 hb11.size)
  have xf011 := Lib.hid (xf010.out.below hb11 hb11.size)
  have xf111 := Lib.hid (xf110.out.below hb11 hb11.size)
  have xf211 := Lib.hid (xf210.out.below hb11 hb11.size)
  go_wp2_with fail
  refine (toDataS' t0 A0 c0 _ at011.out hm0).mono ?_
  rintro e w12 ⟨Y01, y01, rfl, owy0, hb12⟩
  have B12 := B11.trans (hb12.mono B11.size)
  have at012 := Lib.hid (at011.out.below hb12 hb12.size)
  have at112 := Lib.hid (at111.out.below hb12 hb12.size)
  have at212 := Lib.hid (at211.out.below hb12 hb12.size)
  have xf012 := Lib.hid (xf011.out.below hb12 hb12.size)
  have xf112 := Lib.hid (xf111.out.below hb12 hb12.size)
  have xf212 := Lib.hid (xf211.out.below hb12 hb12.size)
  have yf012 := Lib.hid (owy0.slLt)
  go_wp2_with fail
  refine (eqDataS' t0 X01 Y01 x01 y01 _ xf012.out yf012.out).mono ?_
  rintro e w13 ⟨rfl, hb13⟩
  have B13 := B12.trans (hb13.mono B12.size)
  have at013 := Lib.hid (at012.out.below hb13 hb13.size)
  have at113 := Lib.hid (at112.out.below hb13 hb13.size)
  have at213 := Lib.hid (at212.out.below hb13 hb13.size)
  have xf013 := Lib.hid (xf012.out.below hb13 hb13.size)
  have xf113 := Lib.hid (xf112.out.below hb13 hb13.size)
  have xf213 := Lib.hid (xf212.out.below hb13 hb13.size)
  have yf013 := Lib.hid (yf012.out.below hb13 hb13.size)
  go_wp2_with fail
  refine (toNodeSS' t1 A1 c1 _ at113.out hm1).mono ?_
  rintro e w14 ⟨Y11, y11, rfl, owy1, hb14⟩
  have B14 := B13.trans (hb14.mono B13.size)
  have at014 := Lib.hid (at013.out.below hb14 hb14.size)
  have at114 := Lib.hid (at113.out.below hb14 hb14.size)
  have at214 := Lib.hid (at213.out.below hb14 hb14.size)
  have xf014 := Lib.hid (xf013.out.below hb14 hb14.size)
  have xf114 := Lib.hid (xf113.out.below hb14 hb14.size)
  have xf214 := Lib.hid (xf213.out.below hb14 hb14.size)
  have yf114 := Lib.hid (owy1.slLt)
  go_wp2_with fail
  refine (eqNodeSS' t1 X11 Y11 x11 y11 _ xf114.out yf114.out).mono ?_
  rintro e w15 ⟨rfl, hb15⟩
  have B15 := B14.trans (hb15.mono B14.size)
  have at015 := Lib.hid (at014.out.below hb15 hb15.size)
  have at115 := Lib.hid (at114.out.below hb15 hb15.size)
  have at215 := Lib.hid (at214.out.below hb15 hb15.size)
  have xf015 := Lib.hid (xf014.out.below hb15 hb15.size)
  have xf115 := Lib.hid (xf114.out.below hb15 hb15.size)
  have xf215 := Lib.hid (xf214.out.below hb15 hb15.size)
  have yf115 := Lib.hid (yf114.out.below hb15 hb15.size)
  go_wp2_with fail
  refine (toNodeS' t2 A2 c2 _ at215.out hm2).mono ?_
  rintro e w16 ⟨Y21, y21, rfl, owy2, hb16⟩
  have B16 := B15.trans (hb16.mono B15.size)
  have at016 := Lib.hid (at015.out.below hb16 hb16.size)
  have at116 := Lib.hid (at115.out.below hb16 hb16.size)
  have at216 := Lib.hid (at215.out.below hb16 hb16.size)
  have xf016 := Lib.hid (xf015.out.below hb16 hb16.size)
  have xf116 := Lib.hid (xf115.out.below hb16 hb16.size)
  have xf216 := Lib.hid (xf215.out.below hb16 hb16.size)
  have yf216 := Lib.hid (owy2.slLt)
  go_wp2_with fail
  refine (eqNodeS' t2 X21 Y21 x21 y21 _ xf216.out yf216.out).mono ?_
  rintro e w17 ⟨rfl, hb17⟩
  have B17 := B16.trans (hb17.mono B16.size)
  have at017 := Lib.hid (at016.out.below hb17 hb17.size)
  have at117 := Lib.hid (at116.out.below hb17 hb17.size)
  have at217 := Lib.hid (at216.out.below hb17 hb17.size)
  have xf017 := Lib.hid (xf016.out.below hb17 hb17.size)
  have xf117 := Lib.hid (xf116.out.below hb17 hb17.size)
  have xf217 := Lib.hid (xf216.out.below hb17 hb17.size)
  have yf217 := Lib.hid (yf216.out.below hb17 hb17.size)
  go_wp2_with fail
  go_ret
  exact ⟨rfl, B17⟩
end Go.Proofs.Ytgbcdfeflgnogaa
