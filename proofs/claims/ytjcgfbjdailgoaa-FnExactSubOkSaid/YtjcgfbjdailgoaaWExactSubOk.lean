/- The walk of the law FnExactSubOk. Conditions: none. -/
import Derived.Test.YtjcgfbjdailgoaaSubOk
import Derived.Test.YtjcgfbjdailgoaaABind
import Derived.Deep.RegionHeld3
namespace Go.Proofs.Ytjcgfbjdailgoaa
open Go.RowKit
set_option linter.unusedVariables false
set_option linter.unusedSimpArgs false
set_option maxHeartbeats 2000000

set_option maxRecDepth 20000 in
theorem walkExactSubOk (t0 : List GBind) (A0 : Option Addr) (c0 : Nat) (w : World) (hat0 : Sl w (Lt w.heap.size) 5 A0 c0 (t0.map GBind.toD)) :
    Calls Try.prog 12 #[.slice A0 t0.length c0] w fun e w' => e = .returned (.bool true) ∧ Below w.heap.size w w' := by
  have B0 : Below w.heap.size w w := Below.refl _ _
  have at00 := Lib.hid hat0
  clear hat0
  go_enter Try.func12, Try.ntmps12
  go_wp2_with fail
  refine (szBindS' t0 A0 c0 (1048576) _ at00.out (by omega) (by omega)).mono ?_
  rintro e w1 ⟨rfl, hb1⟩
  have B1 := B0.trans (hb1.mono B0.size)
  have at01 := Lib.hid (at00.out.below hb1 hb1.size)
  by_cases hk0 : ((bulkL GBind.bulk t0 : Nat) : Int) ≤ 1048576
  rotate_left
  · have hv := szv_gt (b := bulkL GBind.bulk t0) (left := 1048576) (by omega)
    go_wp2_with fail
    go_ret
    exact ⟨rfl, B1⟩
  have hv0 := szv_le hk0
  have hge0 : 0 ≤ 1048576 - ((bulkL GBind.bulk t0 : Nat) : Int) := by omega
  have hm0 : bulkL GBind.bulk t0 ≤ 1048576 := by omega
  go_wp2_with fail
  refine (toBindS' t0 A0 c0 _ at01.out hm0).mono ?_
  rintro e w2 ⟨D01, d01, rfl, owd0, hb2⟩
  have B2 := B1.trans (hb2.mono B1.size)
  have at02 := Lib.hid (at01.out.below hb2 hb2.size)
  have df02 := Lib.hid (owd0.slLt)
  go_wp2_with fail
  refine (specSubOk t0 D01 d01 _ hm0 df02.out).mono ?_
  rintro e w3 ⟨rfl, hb3⟩
  have B3 := B2.trans (hb3.mono B2.size)
  have at03 := Lib.hid (at02.out.below hb3 hb3.size)
  have df03 := Lib.hid (df02.out.below hb3 hb3.size)
  go_wp2_with fail
  refine (toBindS' t0 A0 c0 _ at03.out hm0).mono ?_
  rintro e w4 ⟨X01, x01, rfl, owx0, hb4⟩
  have B4 := B3.trans (hb4.mono B3.size)
  have at04 := Lib.hid (at03.out.below hb4 hb4.size)
  have xf04 := Lib.hid (owx0.slLt)
  go_wp2_with fail
  refine (implSubOk t0 X01 x01 _ hm0 xf04.out).mono ?_
  rintro e w5 ⟨rfl, hb5⟩
  have B5 := B4.trans (hb5.mono B4.size)
  have at05 := Lib.hid (at04.out.below hb5 hb5.size)
  have xf05 := Lib.hid (xf04.out.below hb5 hb5.size)
  go_wp2_with fail
  refine (toBindS' t0 A0 c0 _ at05.out hm0).mono ?_
  rintro e w6 ⟨Y01, y01, rfl, owy0, hb6⟩
  have B6 := B5.trans (hb6.mono B5.size)
  have at06 := Lib.hid (at05.out.below hb6 hb6.size)
  have xf06 := Lib.hid (xf05.out.below hb6 hb6.size)
  have yf06 := Lib.hid (owy0.slLt)
  go_wp2_with fail
  refine (eqBindS' t0 X01 Y01 x01 y01 _ xf06.out yf06.out).mono ?_
  rintro e w7 ⟨rfl, hb7⟩
  have B7 := B6.trans (hb7.mono B6.size)
  have at07 := Lib.hid (at06.out.below hb7 hb7.size)
  have xf07 := Lib.hid (xf06.out.below hb7 hb7.size)
  have yf07 := Lib.hid (yf06.out.below hb7 hb7.size)
  go_wp2_with fail
  go_ret
  exact ⟨rfl, B7⟩
end Go.Proofs.Ytjcgfbjdailgoaa
