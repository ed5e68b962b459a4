/- The walk of the law FnExactDepths. Conditions: none. -/
import Derived.Test.YtjcgfbjdailgoaaVerify
import Derived.Test.YtjcgfbjdailgoaaAFun
import Derived.Test.YtjcgfbjdailgoaaMFun
import Derived.Test.YtjcgfbjdailgoaaInt
import Derived.Deep.RegionHeld3
import Derived.Deep.RegionLaw
import Derived.Deep.CutRange
namespace Go.Proofs.Ytjcgfbjdailgoaa
open Go.RowKit
set_option linter.unusedVariables false
set_option linter.unusedSimpArgs false
set_option linter.unnecessarySimpa false
set_option maxHeartbeats 4000000

set_option maxRecDepth 20000 in
theorem walkExactDepths (t0 : List GFun) (A0 : Option Addr) (c0 : Nat) (a1 : Int) (w : World) (hat0 : Sl w (Lt w.heap.size) 2 A0 c0 (t0.map GFun.toD)) (h11 : -9223372036854775808 ≤ a1) (h12 : a1 ≤ 9223372036854775807) :
    Calls Try.prog 5 #[.slice A0 t0.length c0, .int .i64 a1] w fun e w' => e = .returned (.bool true) ∧ Below w.heap.size w w' := by
  have B0 : Below w.heap.size w w := Below.refl _ _
  have at00 := Lib.hid hat0
  clear hat0
  go_enter Try.func5, Try.ntmps5
  go_wp2_with fail
  refine (szFunS' t0 A0 c0 (1048576) _ at00.out (by omega) (by omega)).mono ?_
  rintro e w1 ⟨rfl, hb1⟩
  have B1 := B0.trans (hb1.mono B0.size)
  have at01 := Lib.hid (at00.out.below hb1 hb1.size)
  by_cases hk0 : ((bulkL GFun.bulk t0 : Nat) : Int) ≤ 1048576
  rotate_left
  · have hv := szv_gt (b := bulkL GFun.bulk t0) (left := 1048576) (by omega)
    go_wp2_with fail
    go_ret
    exact ⟨rfl, B1⟩
  have hv0 := szv_le hk0
  have hge0 : 0 ≤ 1048576 - ((bulkL GFun.bulk t0 : Nat) : Int) := by omega
  have hm0 : bulkL GFun.bulk t0 ≤ 1048576 := by omega
  go_wp2_with fail
  refine (toFunS' t0 A0 c0 _ at01.out hm0).mono ?_
  rintro e w2 ⟨D01, d01, rfl, owd0, hb2⟩
  have B2 := B1.trans (hb2.mono B1.size)
  have at02 := Lib.hid (at01.out.below hb2 hb2.size)
  have df02 := Lib.hid (owd0.slLt)
  go_wp2_with fail
  refine (specDepthsV t0 D01 d01 a1 _ ⟨h11, h12⟩ df02.out).mono ?_
  rintro e w3 ⟨DOR1, dor1, rfl, owdoR, hb3⟩
  have B3 := B2.trans (hb3.mono B2.size)
  have at03 := Lib.hid (at02.out.below hb3 hb3.size)
  have df03 := Lib.hid (df02.out.below hb3 hb3.size)
  have WW := Lib.hid (show w.heap.size ≤ (w2).heap.size from B2.size)
  have OW3 := Lib.hid (owdoR)
  have LW3 := Lib.hid (show w3.heap.size ≤ (w3).heap.size from Nat.le_refl _)
  go_wp2_with fail
  refine (toFunS' t0 A0 c0 _ at03.out hm0).mono ?_
  rintro e w4 ⟨X01, x01, rfl, owx0, hb4⟩
  have B4 := B3.trans (hb4.mono B3.size)
  have OW4 := Lib.hid (OW3.out.keep (S' := Btw ((w2).heap.size) (w3.heap.size)) (w' := w4) fun b hb => ⟨hb, hb4.block b (Nat.lt_of_lt_of_le hb.2 LW3.out)⟩)
  have LW4 := Lib.hid (show w3.heap.size ≤ (w4).heap.size from Nat.le_trans LW3.out hb4.size)
  have at04 := Lib.hid (at03.out.below hb4 hb4.size)
  have ZW_x0 := Lib.hid (show w3.heap.size ≤ (w3).heap.size from LW3.out)
  have Wx0 := Lib.hid (show w.heap.size ≤ (w3).heap.size from B3.size)
  have Ox04 := Lib.hid (owx0)
  have Lx04 := Lib.hid (show w4.heap.size ≤ (w4).heap.size from Nat.le_refl _)
  go_wp2_with fail
  refine (implDepthsV t0 X01 x01 a1 _ ⟨h11, h12⟩ (Ox04.out.sl.keep fun b hb => ⟨Nat.lt_of_lt_of_le hb.2 Lx04.out, rfl⟩)).mono ?_
  rintro e w5 ⟨GR1, gr1, rfl, owgR, hb5⟩
  have B5 := B4.trans (hb5.mono B4.size)
  have OW5 := Lib.hid (OW4.out.keep (S' := Btw ((w2).heap.size) (w3.heap.size)) (w' := w5) fun b hb => ⟨hb, hb5.block b (Nat.lt_of_lt_of_le hb.2 LW4.out)⟩)
  have LW5 := Lib.hid (show w3.heap.size ≤ (w5).heap.size from Nat.le_trans LW4.out hb5.size)
  have Ox05 := Lib.hid (Ox04.out.keep (S' := Btw ((w3).heap.size) (w4.heap.size)) (w' := w5) fun b hb => ⟨hb, hb5.block b (Nat.lt_of_lt_of_le hb.2 Lx04.out)⟩)
  have Lx05 := Lib.hid (show w4.heap.size ≤ (w5).heap.size from Nat.le_trans Lx04.out hb5.size)
  have at05 := Lib.hid (at04.out.below hb5 hb5.size)
  have ZW_G := Lib.hid (show w3.heap.size ≤ (w4).heap.size from LW4.out)
  have Zx0_G := Lib.hid (show w4.heap.size ≤ (w4).heap.size from Lx04.out)
  have WG := Lib.hid (show w.heap.size ≤ (w4).heap.size from B4.size)
  have OG5 := Lib.hid (owgR)
  have LG5 := Lib.hid (show w5.heap.size ≤ (w5).heap.size from Nat.le_refl _)
  go_wp2_with fail
  refine (eqIntS' ((depthsV t0 a1).getD []) GR1 DOR1 gr1 dor1 _ (OG5.out.sl.keep fun b hb => ⟨Nat.lt_of_lt_of_le hb.2 LG5.out, rfl⟩) (OW5.out.sl.keep fun b hb => ⟨Nat.lt_of_lt_of_le hb.2 LW5.out, rfl⟩)).mono ?_
  rintro e w6 ⟨rfl, hb6⟩
  have B6 := B5.trans (hb6.mono B5.size)
  have OW6 := Lib.hid (OW5.out.keep (S' := Btw ((w2).heap.size) (w3.heap.size)) (w' := w6) fun b hb => ⟨hb, hb6.block b (Nat.lt_of_lt_of_le hb.2 LW5.out)⟩)
  have LW6 := Lib.hid (show w3.heap.size ≤ (w6).heap.size from Nat.le_trans LW5.out hb6.size)
  have Ox06 := Lib.hid (Ox05.out.keep (S' := Btw ((w3).heap.size) (w4.heap.size)) (w' := w6) fun b hb => ⟨hb, hb6.block b (Nat.lt_of_lt_of_le hb.2 Lx05.out)⟩)
  have Lx06 := Lib.hid (show w4.heap.size ≤ (w6).heap.size from Nat.le_trans Lx05.out hb6.size)
  have OG6 := Lib.hid (OG5.out.keep (S' := Btw ((w4).heap.size) (w5.heap.size)) (w' := w6) fun b hb => ⟨hb, hb6.block b (Nat.lt_of_lt_of_le hb.2 LG5.out)⟩)
  have LG6 := Lib.hid (show w5.heap.size ≤ (w6).heap.size from Nat.le_trans LG5.out hb6.size)
  have at06 := Lib.hid (at05.out.below hb6 hb6.size)
  go_wp2_with fail
  refine (toFunS' t0 A0 c0 _ at06.out hm0).mono ?_
  rintro e w7 ⟨Y01, y01, rfl, owy0, hb7⟩
  have B7 := B6.trans (hb7.mono B6.size)
  have OW7 := Lib.hid (OW6.out.keep (S' := Btw ((w2).heap.size) (w3.heap.size)) (w' := w7) fun b hb => ⟨hb, hb7.block b (Nat.lt_of_lt_of_le hb.2 LW6.out)⟩)
  have LW7 := Lib.hid (show w3.heap.size ≤ (w7).heap.size from Nat.le_trans LW6.out hb7.size)
  have Ox07 := Lib.hid (Ox06.out.keep (S' := Btw ((w3).heap.size) (w4.heap.size)) (w' := w7) fun b hb => ⟨hb, hb7.block b (Nat.lt_of_lt_of_le hb.2 Lx06.out)⟩)
  have Lx07 := Lib.hid (show w4.heap.size ≤ (w7).heap.size from Nat.le_trans Lx06.out hb7.size)
  have OG7 := Lib.hid (OG6.out.keep (S' := Btw ((w4).heap.size) (w5.heap.size)) (w' := w7) fun b hb => ⟨hb, hb7.block b (Nat.lt_of_lt_of_le hb.2 LG6.out)⟩)
  have LG7 := Lib.hid (show w5.heap.size ≤ (w7).heap.size from Nat.le_trans LG6.out hb7.size)
  have at07 := Lib.hid (at06.out.below hb7 hb7.size)
  have yf07 := Lib.hid (owy0.slLt)
  go_wp2_with fail
  refine (eqFunS' t0 X01 Y01 x01 y01 _ (Ox07.out.sl.keep fun b hb => ⟨Nat.lt_of_lt_of_le hb.2 Lx07.out, rfl⟩) yf07.out).mono ?_
  rintro e w8 ⟨rfl, hb8⟩
  have B8 := B7.trans (hb8.mono B7.size)
  have OW8 := Lib.hid (OW7.out.keep (S' := Btw ((w2).heap.size) (w3.heap.size)) (w' := w8) fun b hb => ⟨hb, hb8.block b (Nat.lt_of_lt_of_le hb.2 LW7.out)⟩)
  have LW8 := Lib.hid (show w3.heap.size ≤ (w8).heap.size from Nat.le_trans LW7.out hb8.size)
  have Ox08 := Lib.hid (Ox07.out.keep (S' := Btw ((w3).heap.size) (w4.heap.size)) (w' := w8) fun b hb => ⟨hb, hb8.block b (Nat.lt_of_lt_of_le hb.2 Lx07.out)⟩)
  have Lx08 := Lib.hid (show w4.heap.size ≤ (w8).heap.size from Nat.le_trans Lx07.out hb8.size)
  have OG8 := Lib.hid (OG7.out.keep (S' := Btw ((w4).heap.size) (w5.heap.size)) (w' := w8) fun b hb => ⟨hb, hb8.block b (Nat.lt_of_lt_of_le hb.2 LG7.out)⟩)
  have LG8 := Lib.hid (show w5.heap.size ≤ (w8).heap.size from Nat.le_trans LG7.out hb8.size)
  have at08 := Lib.hid (at07.out.below hb8 hb8.size)
  have yf08 := Lib.hid (yf07.out.below hb8 hb8.size)
  obtain ⟨k0, hk0e⟩ : ∃ k0 : Nat, k0 = 1 := ⟨_, rfl⟩
  have hcn0 : cntL GFun.cnt t0 ≤ 33554432 := by have := GFun.cnts_bulk t0; omega
  go_wp2_with fail
  refine (markFunS' t0 X01 x01 k0 _ (Btw ((w3).heap.size) (w4.heap.size)) _ (by omega) (by omega) (by omega) (fun b hb => Nat.lt_of_lt_of_le hb.2 Lx08.out) Ox08.out).mono ?_
  rintro e w9 ⟨rfl, ho9, ht9⟩
  have B9 : Below w.heap.size w w9 := B8.trans (ht9.below (fun b hb => Nat.le_trans Wx0.out hb.1) B8.size)
  have OW9 := Lib.hid (OW8.out.keep (S' := Btw ((w2).heap.size) (w3.heap.size)) (w' := w9) fun b hb => ⟨hb, ht9.block b (Nat.lt_of_lt_of_le hb.2 LW8.out) (fun e => Nat.lt_irrefl _ (Nat.lt_of_lt_of_le hb.2 (Nat.le_trans ZW_x0.out e.1)))⟩)
  have LW9 := Lib.hid (show w3.heap.size ≤ (w9).heap.size from Nat.le_trans LW8.out ht9.size)
  have OG9 := Lib.hid (OG8.out.keep (S' := Btw ((w4).heap.size) (w5.heap.size)) (w' := w9) fun b hb => ⟨hb, ht9.block b (Nat.lt_of_lt_of_le hb.2 LG8.out) (fun e => Nat.lt_irrefl _ (Nat.lt_of_lt_of_le e.2 (Nat.le_trans Zx0_G.out hb.1)))⟩)
  have LG9 := Lib.hid (show w5.heap.size ≤ (w9).heap.size from Nat.le_trans LG8.out ht9.size)
  have at09 := Lib.hid (at00.out.below B9 B9.size)
  obtain ⟨k1, hk1e⟩ : ∃ k1 : Nat, k1 = k0 + cntL GFun.cnt t0 := ⟨_, rfl⟩
  rw [← hk1e]
  go_wp2_with fail
  refine (eqIntS' ((depthsV t0 a1).getD []) GR1 DOR1 gr1 dor1 _ (OG9.out.sl.keep fun b hb => ⟨Nat.lt_of_lt_of_le hb.2 LG9.out, rfl⟩) (OW9.out.sl.keep fun b hb => ⟨Nat.lt_of_lt_of_le hb.2 LW9.out, rfl⟩)).mono ?_
  rintro e w10 ⟨rfl, hb10⟩
  have B10 := B9.trans (hb10.mono B9.size)
  have OW10 := Lib.hid (OW9.out.keep (S' := Btw ((w2).heap.size) (w3.heap.size)) (w' := w10) fun b hb => ⟨hb, hb10.block b (Nat.lt_of_lt_of_le hb.2 LW9.out)⟩)
  have LW10 := Lib.hid (show w3.heap.size ≤ (w10).heap.size from Nat.le_trans LW9.out hb10.size)
  have OG10 := Lib.hid (OG9.out.keep (S' := Btw ((w4).heap.size) (w5.heap.size)) (w' := w10) fun b hb => ⟨hb, hb10.block b (Nat.lt_of_lt_of_le hb.2 LG9.out)⟩)
  have LG10 := Lib.hid (show w5.heap.size ≤ (w10).heap.size from Nat.le_trans LG9.out hb10.size)
  have at010 := Lib.hid (at09.out.below hb10 hb10.size)
  have hcr : cntL cnI ((depthsV t0 a1).getD []) ≤ 2305843009213693952 := by rw [cntL_int]; have := depthsV_len t0 a1; omega
  go_wp2_with fail
  refine (markIntSI ((depthsV t0 a1).getD []) GR1 gr1 k0 _ (Btw ((w4).heap.size) (w5.heap.size)) _ (by omega) (by omega) OG10.out).mono ?_
  rintro e w11 ⟨rfl, ho11, ht11⟩
  have B11 : Below w.heap.size w w11 := B10.trans (ht11.below (fun b hb => Nat.le_trans WG.out hb.1) B10.size)
  have OW11 := Lib.hid (OW10.out.keep (S' := Btw ((w2).heap.size) (w3.heap.size)) (w' := w11) fun b hb => ⟨hb, ht11.block b (Nat.lt_of_lt_of_le hb.2 LW10.out) (fun e => Nat.lt_irrefl _ (Nat.lt_of_lt_of_le hb.2 (Nat.le_trans ZW_G.out e.1)))⟩)
  have LW11 := Lib.hid (show w3.heap.size ≤ (w11).heap.size from Nat.le_trans LW10.out ht11.size)
  have at011 := Lib.hid (at00.out.below B11 B11.size)
  have OG11 := Lib.hid ho11
  have LG11 := Lib.hid (show w5.heap.size ≤ (w11).heap.size from Nat.le_trans LG10.out ht11.size)
  obtain ⟨km, hkm⟩ : ∃ km : Nat, km = k0 + cntL cnI ((depthsV t0 a1).getD []) := ⟨_, rfl⟩
  rw [← hkm]
  go_wp2_with fail
  refine (heldIntSI ((depthsV t0 a1).getD []) GR1 gr1 k0 _ _ (by omega) (by omega) (OG11.out.sl.keep fun b hb => ⟨Nat.lt_of_lt_of_le hb.2 LG11.out, rfl⟩)).mono ?_
  rintro e w12 ⟨rfl, hb12⟩
  have B12 := B11.trans (hb12.mono B11.size)
  have OW12 := Lib.hid (OW11.out.keep (S' := Btw ((w2).heap.size) (w3.heap.size)) (w' := w12) fun b hb => ⟨hb, hb12.block b (Nat.lt_of_lt_of_le hb.2 LW11.out)⟩)
  have LW12 := Lib.hid (show w3.heap.size ≤ (w12).heap.size from Nat.le_trans LW11.out hb12.size)
  have OG12 := Lib.hid (OG11.out.keep (S' := Btw ((w4).heap.size) (w5.heap.size)) (w' := w12) fun b hb => ⟨hb, hb12.block b (Nat.lt_of_lt_of_le hb.2 LG11.out)⟩)
  have LG12 := Lib.hid (show w5.heap.size ≤ (w12).heap.size from Nat.le_trans LG11.out hb12.size)
  have at012 := Lib.hid (at011.out.below hb12 hb12.size)
  rw [← hkm]
  go_wp2_with fail
  refine (toFunS' t0 A0 c0 _ at012.out hm0).mono ?_
  rintro e w13 ⟨Z01, z01, rfl, owz0, hb13⟩
  have B13 := B12.trans (hb13.mono B12.size)
  have OW13 := Lib.hid (OW12.out.keep (S' := Btw ((w2).heap.size) (w3.heap.size)) (w' := w13) fun b hb => ⟨hb, hb13.block b (Nat.lt_of_lt_of_le hb.2 LW12.out)⟩)
  have LW13 := Lib.hid (show w3.heap.size ≤ (w13).heap.size from Nat.le_trans LW12.out hb13.size)
  have OG13 := Lib.hid (OG12.out.keep (S' := Btw ((w4).heap.size) (w5.heap.size)) (w' := w13) fun b hb => ⟨hb, hb13.block b (Nat.lt_of_lt_of_le hb.2 LG12.out)⟩)
  have LG13 := Lib.hid (show w5.heap.size ≤ (w13).heap.size from Nat.le_trans LG12.out hb13.size)
  have at013 := Lib.hid (at012.out.below hb13 hb13.size)
  have zf013 := Lib.hid (owz0.slLt)
  go_wp2_with fail
  refine (implDepthsV t0 Z01 z01 a1 _ ⟨h11, h12⟩ zf013.out).mono ?_
  rintro e w14 ⟨ZOR1, zor1, rfl, owzoR, hb14⟩
  have B14 := B13.trans (hb14.mono B13.size)
  have OW14 := Lib.hid (OW13.out.keep (S' := Btw ((w2).heap.size) (w3.heap.size)) (w' := w14) fun b hb => ⟨hb, hb14.block b (Nat.lt_of_lt_of_le hb.2 LW13.out)⟩)
  have LW14 := Lib.hid (show w3.heap.size ≤ (w14).heap.size from Nat.le_trans LW13.out hb14.size)
  have OG14 := Lib.hid (OG13.out.keep (S' := Btw ((w4).heap.size) (w5.heap.size)) (w' := w14) fun b hb => ⟨hb, hb14.block b (Nat.lt_of_lt_of_le hb.2 LG13.out)⟩)
  have LG14 := Lib.hid (show w5.heap.size ≤ (w14).heap.size from Nat.le_trans LG13.out hb14.size)
  have at014 := Lib.hid (at013.out.below hb14 hb14.size)
  have zf014 := Lib.hid (zf013.out.below hb14 hb14.size)
  have ZW_H := Lib.hid (show w3.heap.size ≤ (w13).heap.size from LW13.out)
  have ZG_H := Lib.hid (show w5.heap.size ≤ (w13).heap.size from LG13.out)
  have WH := Lib.hid (show w.heap.size ≤ (w13).heap.size from B13.size)
  have OH14 := Lib.hid (owzoR)
  have LH14 := Lib.hid (show w14.heap.size ≤ (w14).heap.size from Nat.le_refl _)
  go_wp2_with fail
  refine (eqIntS' ((depthsV t0 a1).getD []) ZOR1 DOR1 zor1 dor1 _ (OH14.out.sl.keep fun b hb => ⟨Nat.lt_of_lt_of_le hb.2 LH14.out, rfl⟩) (OW14.out.sl.keep fun b hb => ⟨Nat.lt_of_lt_of_le hb.2 LW14.out, rfl⟩)).mono ?_
  rintro e w15 ⟨rfl, hb15⟩
  have B15 := B14.trans (hb15.mono B14.size)
  have OW15 := Lib.hid (OW14.out.keep (S' := Btw ((w2).heap.size) (w3.heap.size)) (w' := w15) fun b hb => ⟨hb, hb15.block b (Nat.lt_of_lt_of_le hb.2 LW14.out)⟩)
  have LW15 := Lib.hid (show w3.heap.size ≤ (w15).heap.size from Nat.le_trans LW14.out hb15.size)
  have OG15 := Lib.hid (OG14.out.keep (S' := Btw ((w4).heap.size) (w5.heap.size)) (w' := w15) fun b hb => ⟨hb, hb15.block b (Nat.lt_of_lt_of_le hb.2 LG14.out)⟩)
  have LG15 := Lib.hid (show w5.heap.size ≤ (w15).heap.size from Nat.le_trans LG14.out hb15.size)
  have OH15 := Lib.hid (OH14.out.keep (S' := Btw ((w13).heap.size) (w14.heap.size)) (w' := w15) fun b hb => ⟨hb, hb15.block b (Nat.lt_of_lt_of_le hb.2 LH14.out)⟩)
  have LH15 := Lib.hid (show w14.heap.size ≤ (w15).heap.size from Nat.le_trans LH14.out hb15.size)
  have at015 := Lib.hid (at014.out.below hb15 hb15.size)
  go_wp2_with fail
  refine (heldIntSI ((depthsV t0 a1).getD []) GR1 gr1 k0 _ _ (by omega) (by omega) (OG15.out.sl.keep fun b hb => ⟨Nat.lt_of_lt_of_le hb.2 LG15.out, rfl⟩)).mono ?_
  rintro e w16 ⟨rfl, hb16⟩
  have B16 := B15.trans (hb16.mono B15.size)
  have OW16 := Lib.hid (OW15.out.keep (S' := Btw ((w2).heap.size) (w3.heap.size)) (w' := w16) fun b hb => ⟨hb, hb16.block b (Nat.lt_of_lt_of_le hb.2 LW15.out)⟩)
  have LW16 := Lib.hid (show w3.heap.size ≤ (w16).heap.size from Nat.le_trans LW15.out hb16.size)
  have OG16 := Lib.hid (OG15.out.keep (S' := Btw ((w4).heap.size) (w5.heap.size)) (w' := w16) fun b hb => ⟨hb, hb16.block b (Nat.lt_of_lt_of_le hb.2 LG15.out)⟩)
  have LG16 := Lib.hid (show w5.heap.size ≤ (w16).heap.size from Nat.le_trans LG15.out hb16.size)
  have OH16 := Lib.hid (OH15.out.keep (S' := Btw ((w13).heap.size) (w14.heap.size)) (w' := w16) fun b hb => ⟨hb, hb16.block b (Nat.lt_of_lt_of_le hb.2 LH15.out)⟩)
  have LH16 := Lib.hid (show w14.heap.size ≤ (w16).heap.size from Nat.le_trans LH15.out hb16.size)
  have at016 := Lib.hid (at015.out.below hb16 hb16.size)
  rw [← hkm]
  go_wp2_with fail
  go_ret
  exact ⟨rfl, B16⟩
end Go.Proofs.Ytjcgfbjdailgoaa
