/- Texts of the claim LExactTrees in one: WExactTrees Joined OTy OCon OData ONode. Conditions: none but bounds on sizes. -/
import Derived.Test.YtnpkmebnmklcfaaZLExactTrees8
import Derived.Test.YtnpkmebnmklcfaaZLExactTrees9
import Derived.Test.YtnpkmebnmklcfaaZLExactTrees2
import Derived.Deep.RegionHeld3
import Derived.Deep.RegionLaw
import Derived.Deep.CutRange
import Derived.WalkKit
import Derived.ProofKit
import Derived.OpenShut
import Derived.Test.YtnpkmebnmklcfaaRows
import Derived.Test.YtnpkmebnmklcfaaZLExactTrees6
import Derived.Test.YtnpkmebnmklcfaaZLExactTrees1
import Derived.Test.YtnpkmebnmklcfaaZLExactTrees0
/- The walk of the law FnExactTrees. Conditions: none. -/
namespace Go.Proofs.Ytnpkmebnmklcfaa
open Go.RowKit
set_option linter.unusedVariables false
set_option linter.unusedSimpArgs false
set_option linter.unnecessarySimpa false
set_option maxHeartbeats 4000000

set_option maxRecDepth 20000 in
theorem walkExactTrees (t0 : List GData) (A0 : Option Addr) (c0 : Nat) (t1 : List GNode) (A1 : Option Addr) (c1 : Nat) (w : World) (hat0 : Sl w (Lt w.heap.size) 3 A0 c0 (t0.map GData.toD)) (hat1 : Sl w (Lt w.heap.size) 5 A1 c1 (t1.map GNode.toD)) :
    Calls Try.prog 3 #[.slice A0 t0.length c0, .slice A1 t1.length c1] w fun e w' => e = .returned (.bool true) ∧ Below w.heap.size w w' := by
  have B0 : Below w.heap.size w w := Below.refl _ _
  have at00 := Lib.hid hat0
  have at10 := Lib.hid hat1
  clear hat0
  clear hat1
  go_enter Try.func3, Try.ntmps3
  go_wp2_with fail
  refine (szDataS' t0 A0 c0 (1048576) _ at00.out (by omega) (by omega)).mono ?_
  rintro e w1 ⟨rfl, hb1⟩
  have B1 := B0.trans (hb1.mono B0.size)
  have at01 := Lib.hid (at00.out.below hb1 hb1.size)
  have at11 := Lib.hid (at10.out.below hb1 hb1.size)
  by_cases hk0 : ((bulkL GData.bulk t0 : Nat) : Int) ≤ 1048576
  rotate_left
  · have hv := szv_gt (b := bulkL GData.bulk t0) (left := 1048576) (by omega)
    go_wp2_with fail
    go_ret
    exact ⟨rfl, B1⟩
  have hv0 := szv_le hk0
  have hge0 : 0 ≤ 1048576 - ((bulkL GData.bulk t0 : Nat) : Int) := by omega
  have hm0 : bulkL GData.bulk t0 ≤ 1048576 := by omega
  go_wp2_with fail
  refine (szNodeS' t1 A1 c1 (1048576 - ((bulkL GData.bulk t0 : Nat) : Int)) _ at11.out (by omega) (by omega)).mono ?_
  rintro e w2 ⟨rfl, hb2⟩
  have B2 := B1.trans (hb2.mono B1.size)
  have at02 := Lib.hid (at01.out.below hb2 hb2.size)
  have at12 := Lib.hid (at11.out.below hb2 hb2.size)
  by_cases hk1 : ((bulkL GNode.bulk t1 : Nat) : Int) ≤ 1048576 - ((bulkL GData.bulk t0 : Nat) : Int)
  rotate_left
  · have hv := szv_gt (b := bulkL GNode.bulk t1) (left := 1048576 - ((bulkL GData.bulk t0 : Nat) : Int)) (by omega)
    go_wp2_with fail
    go_ret
    exact ⟨rfl, B2⟩
  have hv1 := szv_le hk1
  have hge1 : 0 ≤ 1048576 - ((bulkL GData.bulk t0 : Nat) : Int) - ((bulkL GNode.bulk t1 : Nat) : Int) := by omega
  have hm1 : bulkL GNode.bulk t1 ≤ 1048576 := by omega
  go_wp2_with fail
  refine (toDataS' t0 A0 c0 _ at02.out hm0).mono ?_
  rintro e w3 ⟨D01, d01, rfl, owd0, hb3⟩
  have B3 := B2.trans (hb3.mono B2.size)
  have at03 := Lib.hid (at02.out.below hb3 hb3.size)
  have at13 := Lib.hid (at12.out.below hb3 hb3.size)
  have df03 := Lib.hid (owd0.slLt)
  go_wp2_with fail
  refine (toNodeS' t1 A1 c1 _ at13.out hm1).mono ?_
  rintro e w4 ⟨D11, d11, rfl, owd1, hb4⟩
  have B4 := B3.trans (hb4.mono B3.size)
  have at04 := Lib.hid (at03.out.below hb4 hb4.size)
  have at14 := Lib.hid (at13.out.below hb4 hb4.size)
  have df04 := Lib.hid (df03.out.below hb4 hb4.size)
  have df14 := Lib.hid (owd1.slLt)
  go_wp2_with fail
  refine (specTreesL t0 D01 d01 t1 D11 d11 _ hm1 df04.out df14.out).mono ?_
  rintro e w5 ⟨DOR1, dor1, DOR2, dor2, rfl, owdoR, hb5⟩
  have B5 := B4.trans (hb5.mono B4.size)
  have at05 := Lib.hid (at04.out.below hb5 hb5.size)
  have at15 := Lib.hid (at14.out.below hb5 hb5.size)
  have df05 := Lib.hid (df04.out.below hb5 hb5.size)
  have df15 := Lib.hid (df14.out.below hb5 hb5.size)
  have WW := Lib.hid (show w.heap.size ≤ (w4).heap.size from B4.size)
  have OW5 := Lib.hid (owdoR)
  have LW5 := Lib.hid (show w5.heap.size ≤ (w5).heap.size from Nat.le_refl _)
  have E6 : Below (w5).heap.size (w5) (w5.alloc (.cells #[.int .i64 ((treesV t0 (t1.map patOf)).1).op, .int .i64 ((treesV t0 (t1.map patOf)).1).n, .slice DOR1 ((treesV t0 (t1.map patOf)).1).path.length dor1, .string ((treesV t0 (t1.map patOf)).1).s, .slice DOR2 ((treesV t0 (t1.map patOf)).1).kids.length dor2] 29)) := (Below.refl _ _).alloc (Nat.le_refl _) _
  have B6 : Below w.heap.size w (w5.alloc (.cells #[.int .i64 ((treesV t0 (t1.map patOf)).1).op, .int .i64 ((treesV t0 (t1.map patOf)).1).n, .slice DOR1 ((treesV t0 (t1.map patOf)).1).path.length dor1, .string ((treesV t0 (t1.map patOf)).1).s, .slice DOR2 ((treesV t0 (t1.map patOf)).1).kids.length dor2] 29)) := B5.alloc B5.size _
  have bw6 := Lib.hid (Row.new' (w5) 29 #[.int .i64 ((treesV t0 (t1.map patOf)).1).op, .int .i64 ((treesV t0 (t1.map patOf)).1).n, .slice DOR1 ((treesV t0 (t1.map patOf)).1).path.length dor1, .string ((treesV t0 (t1.map patOf)).1).s, .slice DOR2 ((treesV t0 (t1.map patOf)).1).kids.length dor2] (g := w5.heap.size) rfl)
  have at06 := Lib.hid (at05.out.below E6 E6.size)
  have at16 := Lib.hid (at15.out.below E6 E6.size)
  have OW6 := Lib.hid (OW5.out.keep (S' := Btw ((w4).heap.size) (w5.heap.size)) (w' := w5.alloc (.cells #[.int .i64 ((treesV t0 (t1.map patOf)).1).op, .int .i64 ((treesV t0 (t1.map patOf)).1).n, .slice DOR1 ((treesV t0 (t1.map patOf)).1).path.length dor1, .string ((treesV t0 (t1.map patOf)).1).s, .slice DOR2 ((treesV t0 (t1.map patOf)).1).kids.length dor2] 29)) fun b hb => ⟨hb, Below.heap_alloc _ _ _ (Nat.lt_of_lt_of_le hb.2 LW5.out)⟩)
  have LW6 := Lib.hid (show w5.heap.size ≤ (w5.alloc (.cells #[.int .i64 ((treesV t0 (t1.map patOf)).1).op, .int .i64 ((treesV t0 (t1.map patOf)).1).n, .slice DOR1 ((treesV t0 (t1.map patOf)).1).path.length dor1, .string ((treesV t0 (t1.map patOf)).1).s, .slice DOR2 ((treesV t0 (t1.map patOf)).1).kids.length dor2] 29)).heap.size from Nat.le_trans LW5.out E6.size)
  have YW_bw := Lib.hid (show w5.heap.size ≤ w5.heap.size from by have := LW5.out; simpa using this)
  have hcbw6 := fun i => bw6.out.cell i
  go_wp2_with fail
  refine (toDataS' t0 A0 c0 _ at06.out hm0).mono ?_
  rintro e w6 ⟨X01, x01, rfl, owx0, hb6⟩
  have B7 := B6.trans (hb6.mono B6.size)
  have OW7 := Lib.hid (OW6.out.keep (S' := Btw ((w4).heap.size) (w5.heap.size)) (w' := w6) fun b hb => ⟨hb, hb6.block b (Nat.lt_of_lt_of_le hb.2 LW6.out)⟩)
  have LW7 := Lib.hid (show w5.heap.size ≤ (w6).heap.size from Nat.le_trans LW6.out hb6.size)
  have bw7 := Lib.hid (bw6.out.below hb6 bw6.out.lt)
  have at07 := Lib.hid (at06.out.below hb6 hb6.size)
  have at17 := Lib.hid (at16.out.below hb6 hb6.size)
  have ZW_x0 := Lib.hid (show w5.heap.size ≤ (w5.alloc (.cells #[.int .i64 ((treesV t0 (t1.map patOf)).1).op, .int .i64 ((treesV t0 (t1.map patOf)).1).n, .slice DOR1 ((treesV t0 (t1.map patOf)).1).path.length dor1, .string ((treesV t0 (t1.map patOf)).1).s, .slice DOR2 ((treesV t0 (t1.map patOf)).1).kids.length dor2] 29)).heap.size from LW6.out)
  have Xbw_x0 := Lib.hid (show w5.heap.size < (w5.alloc (.cells #[.int .i64 ((treesV t0 (t1.map patOf)).1).op, .int .i64 ((treesV t0 (t1.map patOf)).1).n, .slice DOR1 ((treesV t0 (t1.map patOf)).1).path.length dor1, .string ((treesV t0 (t1.map patOf)).1).s, .slice DOR2 ((treesV t0 (t1.map patOf)).1).kids.length dor2] 29)).heap.size from bw6.out.lt)
  have Wx0 := Lib.hid (show w.heap.size ≤ (w5.alloc (.cells #[.int .i64 ((treesV t0 (t1.map patOf)).1).op, .int .i64 ((treesV t0 (t1.map patOf)).1).n, .slice DOR1 ((treesV t0 (t1.map patOf)).1).path.length dor1, .string ((treesV t0 (t1.map patOf)).1).s, .slice DOR2 ((treesV t0 (t1.map patOf)).1).kids.length dor2] 29)).heap.size from B6.size)
  have Ox07 := Lib.hid (owx0)
  have Lx07 := Lib.hid (show w6.heap.size ≤ (w6).heap.size from Nat.le_refl _)
  have hcbw7 := fun i => bw7.out.cell i
  go_wp2_with fail
  refine (toNodeS' t1 A1 c1 _ at17.out hm1).mono ?_
  rintro e w7 ⟨X11, x11, rfl, owx1, hb7⟩
  have B8 := B7.trans (hb7.mono B7.size)
  have OW8 := Lib.hid (OW7.out.keep (S' := Btw ((w4).heap.size) (w5.heap.size)) (w' := w7) fun b hb => ⟨hb, hb7.block b (Nat.lt_of_lt_of_le hb.2 LW7.out)⟩)
  have LW8 := Lib.hid (show w5.heap.size ≤ (w7).heap.size from Nat.le_trans LW7.out hb7.size)
  have Ox08 := Lib.hid (Ox07.out.keep (S' := Btw ((w5.alloc (.cells #[.int .i64 ((treesV t0 (t1.map patOf)).1).op, .int .i64 ((treesV t0 (t1.map patOf)).1).n, .slice DOR1 ((treesV t0 (t1.map patOf)).1).path.length dor1, .string ((treesV t0 (t1.map patOf)).1).s, .slice DOR2 ((treesV t0 (t1.map patOf)).1).kids.length dor2] 29)).heap.size) (w6.heap.size)) (w' := w7) fun b hb => ⟨hb, hb7.block b (Nat.lt_of_lt_of_le hb.2 Lx07.out)⟩)
  have Lx08 := Lib.hid (show w6.heap.size ≤ (w7).heap.size from Nat.le_trans Lx07.out hb7.size)
  have bw8 := Lib.hid (bw7.out.below hb7 bw7.out.lt)
  have at08 := Lib.hid (at07.out.below hb7 hb7.size)
  have at18 := Lib.hid (at17.out.below hb7 hb7.size)
  have ZW_x1 := Lib.hid (show w5.heap.size ≤ (w6).heap.size from LW7.out)
  have Zx0_x1 := Lib.hid (show w6.heap.size ≤ (w6).heap.size from Lx07.out)
  have Xbw_x1 := Lib.hid (show w5.heap.size < (w6).heap.size from bw7.out.lt)
  have Wx1 := Lib.hid (show w.heap.size ≤ (w6).heap.size from B7.size)
  have Ox18 := Lib.hid (owx1)
  have Lx18 := Lib.hid (show w7.heap.size ≤ (w7).heap.size from Nat.le_refl _)
  have hcbw8 := fun i => bw8.out.cell i
  go_wp2_with fail
  refine (implTreesL t0 X01 x01 t1 X11 x11 _ hm1 (Ox08.out.sl.keep fun b hb => ⟨Nat.lt_of_lt_of_le hb.2 Lx08.out, rfl⟩) (Ox18.out.sl.keep fun b hb => ⟨Nat.lt_of_lt_of_le hb.2 Lx18.out, rfl⟩)).mono ?_
  rintro e w8 ⟨GR1, gr1, GR2, gr2, rfl, owgR, hb8⟩
  have B9 := B8.trans (hb8.mono B8.size)
  have OW9 := Lib.hid (OW8.out.keep (S' := Btw ((w4).heap.size) (w5.heap.size)) (w' := w8) fun b hb => ⟨hb, hb8.block b (Nat.lt_of_lt_of_le hb.2 LW8.out)⟩)
  have LW9 := Lib.hid (show w5.heap.size ≤ (w8).heap.size from Nat.le_trans LW8.out hb8.size)
  have Ox09 := Lib.hid (Ox08.out.keep (S' := Btw ((w5.alloc (.cells #[.int .i64 ((treesV t0 (t1.map patOf)).1).op, .int .i64 ((treesV t0 (t1.map patOf)).1).n, .slice DOR1 ((treesV t0 (t1.map patOf)).1).path.length dor1, .string ((treesV t0 (t1.map patOf)).1).s, .slice DOR2 ((treesV t0 (t1.map patOf)).1).kids.length dor2] 29)).heap.size) (w6.heap.size)) (w' := w8) fun b hb => ⟨hb, hb8.block b (Nat.lt_of_lt_of_le hb.2 Lx08.out)⟩)
  have Lx09 := Lib.hid (show w6.heap.size ≤ (w8).heap.size from Nat.le_trans Lx08.out hb8.size)
  have Ox19 := Lib.hid (Ox18.out.keep (S' := Btw ((w6).heap.size) (w7.heap.size)) (w' := w8) fun b hb => ⟨hb, hb8.block b (Nat.lt_of_lt_of_le hb.2 Lx18.out)⟩)
  have Lx19 := Lib.hid (show w7.heap.size ≤ (w8).heap.size from Nat.le_trans Lx18.out hb8.size)
  have bw9 := Lib.hid (bw8.out.below hb8 bw8.out.lt)
  have at09 := Lib.hid (at08.out.below hb8 hb8.size)
  have at19 := Lib.hid (at18.out.below hb8 hb8.size)
  have ZW_G := Lib.hid (show w5.heap.size ≤ (w7).heap.size from LW8.out)
  have Zx0_G := Lib.hid (show w6.heap.size ≤ (w7).heap.size from Lx08.out)
  have Zx1_G := Lib.hid (show w7.heap.size ≤ (w7).heap.size from Lx18.out)
  have Xbw_G := Lib.hid (show w5.heap.size < (w7).heap.size from bw8.out.lt)
  have WG := Lib.hid (show w.heap.size ≤ (w7).heap.size from B8.size)
  have OG9 := Lib.hid (owgR)
  have LG9 := Lib.hid (show w8.heap.size ≤ (w8).heap.size from Nat.le_refl _)
  have hcbw9 := fun i => bw9.out.cell i
  have E10 : Below (w8).heap.size (w8) (w8.alloc (.cells #[.int .i64 ((treesV t0 (t1.map patOf)).1).op, .int .i64 ((treesV t0 (t1.map patOf)).1).n, .slice GR1 ((treesV t0 (t1.map patOf)).1).path.length gr1, .string ((treesV t0 (t1.map patOf)).1).s, .slice GR2 ((treesV t0 (t1.map patOf)).1).kids.length gr2] 29)) := (Below.refl _ _).alloc (Nat.le_refl _) _
  have B10 : Below w.heap.size w (w8.alloc (.cells #[.int .i64 ((treesV t0 (t1.map patOf)).1).op, .int .i64 ((treesV t0 (t1.map patOf)).1).n, .slice GR1 ((treesV t0 (t1.map patOf)).1).path.length gr1, .string ((treesV t0 (t1.map patOf)).1).s, .slice GR2 ((treesV t0 (t1.map patOf)).1).kids.length gr2] 29)) := B9.alloc B9.size _
  have bw10 := Lib.hid (Row.alloc bw9.out (.cells #[.int .i64 ((treesV t0 (t1.map patOf)).1).op, .int .i64 ((treesV t0 (t1.map patOf)).1).n, .slice GR1 ((treesV t0 (t1.map patOf)).1).path.length gr1, .string ((treesV t0 (t1.map patOf)).1).s, .slice GR2 ((treesV t0 (t1.map patOf)).1).kids.length gr2] 29))
  have bg10 := Lib.hid (Row.new' (w8) 29 #[.int .i64 ((treesV t0 (t1.map patOf)).1).op, .int .i64 ((treesV t0 (t1.map patOf)).1).n, .slice GR1 ((treesV t0 (t1.map patOf)).1).path.length gr1, .string ((treesV t0 (t1.map patOf)).1).s, .slice GR2 ((treesV t0 (t1.map patOf)).1).kids.length gr2] (g := w8.heap.size) rfl)
  have at010 := Lib.hid (at09.out.below E10 E10.size)
  have at110 := Lib.hid (at19.out.below E10 E10.size)
  have OW10 := Lib.hid (OW9.out.keep (S' := Btw ((w4).heap.size) (w5.heap.size)) (w' := w8.alloc (.cells #[.int .i64 ((treesV t0 (t1.map patOf)).1).op, .int .i64 ((treesV t0 (t1.map patOf)).1).n, .slice GR1 ((treesV t0 (t1.map patOf)).1).path.length gr1, .string ((treesV t0 (t1.map patOf)).1).s, .slice GR2 ((treesV t0 (t1.map patOf)).1).kids.length gr2] 29)) fun b hb => ⟨hb, Below.heap_alloc _ _ _ (Nat.lt_of_lt_of_le hb.2 LW9.out)⟩)
  have LW10 := Lib.hid (show w5.heap.size ≤ (w8.alloc (.cells #[.int .i64 ((treesV t0 (t1.map patOf)).1).op, .int .i64 ((treesV t0 (t1.map patOf)).1).n, .slice GR1 ((treesV t0 (t1.map patOf)).1).path.length gr1, .string ((treesV t0 (t1.map patOf)).1).s, .slice GR2 ((treesV t0 (t1.map patOf)).1).kids.length gr2] 29)).heap.size from Nat.le_trans LW9.out E10.size)
  have Ox010 := Lib.hid (Ox09.out.keep (S' := Btw ((w5.alloc (.cells #[.int .i64 ((treesV t0 (t1.map patOf)).1).op, .int .i64 ((treesV t0 (t1.map patOf)).1).n, .slice DOR1 ((treesV t0 (t1.map patOf)).1).path.length dor1, .string ((treesV t0 (t1.map patOf)).1).s, .slice DOR2 ((treesV t0 (t1.map patOf)).1).kids.length dor2] 29)).heap.size) (w6.heap.size)) (w' := w8.alloc (.cells #[.int .i64 ((treesV t0 (t1.map patOf)).1).op, .int .i64 ((treesV t0 (t1.map patOf)).1).n, .slice GR1 ((treesV t0 (t1.map patOf)).1).path.length gr1, .string ((treesV t0 (t1.map patOf)).1).s, .slice GR2 ((treesV t0 (t1.map patOf)).1).kids.length gr2] 29)) fun b hb => ⟨hb, Below.heap_alloc _ _ _ (Nat.lt_of_lt_of_le hb.2 Lx09.out)⟩)
  have Lx010 := Lib.hid (show w6.heap.size ≤ (w8.alloc (.cells #[.int .i64 ((treesV t0 (t1.map patOf)).1).op, .int .i64 ((treesV t0 (t1.map patOf)).1).n, .slice GR1 ((treesV t0 (t1.map patOf)).1).path.length gr1, .string ((treesV t0 (t1.map patOf)).1).s, .slice GR2 ((treesV t0 (t1.map patOf)).1).kids.length gr2] 29)).heap.size from Nat.le_trans Lx09.out E10.size)
  have Ox110 := Lib.hid (Ox19.out.keep (S' := Btw ((w6).heap.size) (w7.heap.size)) (w' := w8.alloc (.cells #[.int .i64 ((treesV t0 (t1.map patOf)).1).op, .int .i64 ((treesV t0 (t1.map patOf)).1).n, .slice GR1 ((treesV t0 (t1.map patOf)).1).path.length gr1, .string ((treesV t0 (t1.map patOf)).1).s, .slice GR2 ((treesV t0 (t1.map patOf)).1).kids.length gr2] 29)) fun b hb => ⟨hb, Below.heap_alloc _ _ _ (Nat.lt_of_lt_of_le hb.2 Lx19.out)⟩)
  have Lx110 := Lib.hid (show w7.heap.size ≤ (w8.alloc (.cells #[.int .i64 ((treesV t0 (t1.map patOf)).1).op, .int .i64 ((treesV t0 (t1.map patOf)).1).n, .slice GR1 ((treesV t0 (t1.map patOf)).1).path.length gr1, .string ((treesV t0 (t1.map patOf)).1).s, .slice GR2 ((treesV t0 (t1.map patOf)).1).kids.length gr2] 29)).heap.size from Nat.le_trans Lx19.out E10.size)
  have OG10 := Lib.hid (OG9.out.keep (S' := Btw ((w7).heap.size) (w8.heap.size)) (w' := w8.alloc (.cells #[.int .i64 ((treesV t0 (t1.map patOf)).1).op, .int .i64 ((treesV t0 (t1.map patOf)).1).n, .slice GR1 ((treesV t0 (t1.map patOf)).1).path.length gr1, .string ((treesV t0 (t1.map patOf)).1).s, .slice GR2 ((treesV t0 (t1.map patOf)).1).kids.length gr2] 29)) fun b hb => ⟨hb, Below.heap_alloc _ _ _ (Nat.lt_of_lt_of_le hb.2 LG9.out)⟩)
  have LG10 := Lib.hid (show w8.heap.size ≤ (w8.alloc (.cells #[.int .i64 ((treesV t0 (t1.map patOf)).1).op, .int .i64 ((treesV t0 (t1.map patOf)).1).n, .slice GR1 ((treesV t0 (t1.map patOf)).1).path.length gr1, .string ((treesV t0 (t1.map patOf)).1).s, .slice GR2 ((treesV t0 (t1.map patOf)).1).kids.length gr2] 29)).heap.size from Nat.le_trans LG9.out E10.size)
  have YW_bg := Lib.hid (show w5.heap.size ≤ w8.heap.size from by have := LW9.out; simpa using this)
  have Yx0_bg := Lib.hid (show w6.heap.size ≤ w8.heap.size from by have := Lx09.out; simpa using this)
  have Yx1_bg := Lib.hid (show w7.heap.size ≤ w8.heap.size from by have := Lx19.out; simpa using this)
  have YG_bg := Lib.hid (show w8.heap.size ≤ w8.heap.size from by have := LG9.out; simpa using this)
  have hcbw10 := fun i => bw10.out.cell i
  have hcbg10 := fun i => bg10.out.cell i
  go_wp2_with fail
  refine (eqTree' ((treesV t0 (t1.map patOf)).1) GR1 gr1 GR2 gr2 DOR1 dor1 DOR2 dor2 _ (OG10.out.at.keep fun b hb => ⟨Nat.lt_of_lt_of_le hb.2 LG10.out, rfl⟩) (OW10.out.at.keep fun b hb => ⟨Nat.lt_of_lt_of_le hb.2 LW10.out, rfl⟩)).mono ?_
  rintro e w9 ⟨rfl, hb9⟩
  have B11 := B10.trans (hb9.mono B10.size)
  have OW11 := Lib.hid (OW10.out.keep (S' := Btw ((w4).heap.size) (w5.heap.size)) (w' := w9) fun b hb => ⟨hb, hb9.block b (Nat.lt_of_lt_of_le hb.2 LW10.out)⟩)
  have LW11 := Lib.hid (show w5.heap.size ≤ (w9).heap.size from Nat.le_trans LW10.out hb9.size)
  have Ox011 := Lib.hid (Ox010.out.keep (S' := Btw ((w5.alloc (.cells #[.int .i64 ((treesV t0 (t1.map patOf)).1).op, .int .i64 ((treesV t0 (t1.map patOf)).1).n, .slice DOR1 ((treesV t0 (t1.map patOf)).1).path.length dor1, .string ((treesV t0 (t1.map patOf)).1).s, .slice DOR2 ((treesV t0 (t1.map patOf)).1).kids.length dor2] 29)).heap.size) (w6.heap.size)) (w' := w9) fun b hb => ⟨hb, hb9.block b (Nat.lt_of_lt_of_le hb.2 Lx010.out)⟩)
  have Lx011 := Lib.hid (show w6.heap.size ≤ (w9).heap.size from Nat.le_trans Lx010.out hb9.size)
  have Ox111 := Lib.hid (Ox110.out.keep (S' := Btw ((w6).heap.size) (w7.heap.size)) (w' := w9) fun b hb => ⟨hb, hb9.block b (Nat.lt_of_lt_of_le hb.2 Lx110.out)⟩)
  have Lx111 := Lib.hid (show w7.heap.size ≤ (w9).heap.size from Nat.le_trans Lx110.out hb9.size)
  have OG11 := Lib.hid (OG10.out.keep (S' := Btw ((w7).heap.size) (w8.heap.size)) (w' := w9) fun b hb => ⟨hb, hb9.block b (Nat.lt_of_lt_of_le hb.2 LG10.out)⟩)
  have LG11 := Lib.hid (show w8.heap.size ≤ (w9).heap.size from Nat.le_trans LG10.out hb9.size)
  have bw11 := Lib.hid (bw10.out.below hb9 bw10.out.lt)
  have bg11 := Lib.hid (bg10.out.below hb9 bg10.out.lt)
  have at011 := Lib.hid (at010.out.below hb9 hb9.size)
  have at111 := Lib.hid (at110.out.below hb9 hb9.size)
  have hcbw11 := fun i => bw11.out.cell i
  have hcbg11 := fun i => bg11.out.cell i
  go_wp2_with fail
  refine (toDataS' t0 A0 c0 _ at011.out hm0).mono ?_
  rintro e w10 ⟨Y01, y01, rfl, owy0, hb10⟩
  have B12 := B11.trans (hb10.mono B11.size)
  have OW12 := Lib.hid (OW11.out.keep (S' := Btw ((w4).heap.size) (w5.heap.size)) (w' := w10) fun b hb => ⟨hb, hb10.block b (Nat.lt_of_lt_of_le hb.2 LW11.out)⟩)
  have LW12 := Lib.hid (show w5.heap.size ≤ (w10).heap.size from Nat.le_trans LW11.out hb10.size)
  have Ox012 := Lib.hid (Ox011.out.keep (S' := Btw ((w5.alloc (.cells #[.int .i64 ((treesV t0 (t1.map patOf)).1).op, .int .i64 ((treesV t0 (t1.map patOf)).1).n, .slice DOR1 ((treesV t0 (t1.map patOf)).1).path.length dor1, .string ((treesV t0 (t1.map patOf)).1).s, .slice DOR2 ((treesV t0 (t1.map patOf)).1).kids.length dor2] 29)).heap.size) (w6.heap.size)) (w' := w10) fun b hb => ⟨hb, hb10.block b (Nat.lt_of_lt_of_le hb.2 Lx011.out)⟩)
  have Lx012 := Lib.hid (show w6.heap.size ≤ (w10).heap.size from Nat.le_trans Lx011.out hb10.size)
  have Ox112 := Lib.hid (Ox111.out.keep (S' := Btw ((w6).heap.size) (w7.heap.size)) (w' := w10) fun b hb => ⟨hb, hb10.block b (Nat.lt_of_lt_of_le hb.2 Lx111.out)⟩)
  have Lx112 := Lib.hid (show w7.heap.size ≤ (w10).heap.size from Nat.le_trans Lx111.out hb10.size)
  have OG12 := Lib.hid (OG11.out.keep (S' := Btw ((w7).heap.size) (w8.heap.size)) (w' := w10) fun b hb => ⟨hb, hb10.block b (Nat.lt_of_lt_of_le hb.2 LG11.out)⟩)
  have LG12 := Lib.hid (show w8.heap.size ≤ (w10).heap.size from Nat.le_trans LG11.out hb10.size)
  have bw12 := Lib.hid (bw11.out.below hb10 bw11.out.lt)
  have bg12 := Lib.hid (bg11.out.below hb10 bg11.out.lt)
  have at012 := Lib.hid (at011.out.below hb10 hb10.size)
  have at112 := Lib.hid (at111.out.below hb10 hb10.size)
  have yf012 := Lib.hid (owy0.slLt)
  have hcbw12 := fun i => bw12.out.cell i
  have hcbg12 := fun i => bg12.out.cell i
  go_wp2_with fail
  refine (eqDataS' t0 X01 Y01 x01 y01 _ (Ox012.out.sl.keep fun b hb => ⟨Nat.lt_of_lt_of_le hb.2 Lx012.out, rfl⟩) yf012.out).mono ?_
  rintro e w11 ⟨rfl, hb11⟩
  have B13 := B12.trans (hb11.mono B12.size)
  have OW13 := Lib.hid (OW12.out.keep (S' := Btw ((w4).heap.size) (w5.heap.size)) (w' := w11) fun b hb => ⟨hb, hb11.block b (Nat.lt_of_lt_of_le hb.2 LW12.out)⟩)
  have LW13 := Lib.hid (show w5.heap.size ≤ (w11).heap.size from Nat.le_trans LW12.out hb11.size)
  have Ox013 := Lib.hid (Ox012.out.keep (S' := Btw ((w5.alloc (.cells #[.int .i64 ((treesV t0 (t1.map patOf)).1).op, .int .i64 ((treesV t0 (t1.map patOf)).1).n, .slice DOR1 ((treesV t0 (t1.map patOf)).1).path.length dor1, .string ((treesV t0 (t1.map patOf)).1).s, .slice DOR2 ((treesV t0 (t1.map patOf)).1).kids.length dor2] 29)).heap.size) (w6.heap.size)) (w' := w11) fun b hb => ⟨hb, hb11.block b (Nat.lt_of_lt_of_le hb.2 Lx012.out)⟩)
  have Lx013 := Lib.hid (show w6.heap.size ≤ (w11).heap.size from Nat.le_trans Lx012.out hb11.size)
  have Ox113 := Lib.hid (Ox112.out.keep (S' := Btw ((w6).heap.size) (w7.heap.size)) (w' := w11) fun b hb => ⟨hb, hb11.block b (Nat.lt_of_lt_of_le hb.2 Lx112.out)⟩)
  have Lx113 := Lib.hid (show w7.heap.size ≤ (w11).heap.size from Nat.le_trans Lx112.out hb11.size)
  have OG13 := Lib.hid (OG12.out.keep (S' := Btw ((w7).heap.size) (w8.heap.size)) (w' := w11) fun b hb => ⟨hb, hb11.block b (Nat.lt_of_lt_of_le hb.2 LG12.out)⟩)
  have LG13 := Lib.hid (show w8.heap.size ≤ (w11).heap.size from Nat.le_trans LG12.out hb11.size)
  have bw13 := Lib.hid (bw12.out.below hb11 bw12.out.lt)
  have bg13 := Lib.hid (bg12.out.below hb11 bg12.out.lt)
  have at013 := Lib.hid (at012.out.below hb11 hb11.size)
  have at113 := Lib.hid (at112.out.below hb11 hb11.size)
  have yf013 := Lib.hid (yf012.out.below hb11 hb11.size)
  have hcbw13 := fun i => bw13.out.cell i
  have hcbg13 := fun i => bg13.out.cell i
  go_wp2_with fail
  refine (toNodeS' t1 A1 c1 _ at113.out hm1).mono ?_
  rintro e w12 ⟨Y11, y11, rfl, owy1, hb12⟩
  have B14 := B13.trans (hb12.mono B13.size)
  have OW14 := Lib.hid (OW13.out.keep (S' := Btw ((w4).heap.size) (w5.heap.size)) (w' := w12) fun b hb => ⟨hb, hb12.block b (Nat.lt_of_lt_of_le hb.2 LW13.out)⟩)
  have LW14 := Lib.hid (show w5.heap.size ≤ (w12).heap.size from Nat.le_trans LW13.out hb12.size)
  have Ox014 := Lib.hid (Ox013.out.keep (S' := Btw ((w5.alloc (.cells #[.int .i64 ((treesV t0 (t1.map patOf)).1).op, .int .i64 ((treesV t0 (t1.map patOf)).1).n, .slice DOR1 ((treesV t0 (t1.map patOf)).1).path.length dor1, .string ((treesV t0 (t1.map patOf)).1).s, .slice DOR2 ((treesV t0 (t1.map patOf)).1).kids.length dor2] 29)).heap.size) (w6.heap.size)) (w' := w12) fun b hb => ⟨hb, hb12.block b (Nat.lt_of_lt_of_le hb.2 Lx013.out)⟩)
  have Lx014 := Lib.hid (show w6.heap.size ≤ (w12).heap.size from Nat.le_trans Lx013.out hb12.size)
  have Ox114 := Lib.hid (Ox113.out.keep (S' := Btw ((w6).heap.size) (w7.heap.size)) (w' := w12) fun b hb => ⟨hb, hb12.block b (Nat.lt_of_lt_of_le hb.2 Lx113.out)⟩)
  have Lx114 := Lib.hid (show w7.heap.size ≤ (w12).heap.size from Nat.le_trans Lx113.out hb12.size)
  have OG14 := Lib.hid (OG13.out.keep (S' := Btw ((w7).heap.size) (w8.heap.size)) (w' := w12) fun b hb => ⟨hb, hb12.block b (Nat.lt_of_lt_of_le hb.2 LG13.out)⟩)
  have LG14 := Lib.hid (show w8.heap.size ≤ (w12).heap.size from Nat.le_trans LG13.out hb12.size)
  have bw14 := Lib.hid (bw13.out.below hb12 bw13.out.lt)
  have bg14 := Lib.hid (bg13.out.below hb12 bg13.out.lt)
  have at014 := Lib.hid (at013.out.below hb12 hb12.size)
  have at114 := Lib.hid (at113.out.below hb12 hb12.size)
  have yf114 := Lib.hid (owy1.slLt)
  have hcbw14 := fun i => bw14.out.cell i
  have hcbg14 := fun i => bg14.out.cell i
  go_wp2_with fail
  refine (eqNodeS' t1 X11 Y11 x11 y11 _ (Ox114.out.sl.keep fun b hb => ⟨Nat.lt_of_lt_of_le hb.2 Lx114.out, rfl⟩) yf114.out).mono ?_
  rintro e w13 ⟨rfl, hb13⟩
  have B15 := B14.trans (hb13.mono B14.size)
  have OW15 := Lib.hid (OW14.out.keep (S' := Btw ((w4).heap.size) (w5.heap.size)) (w' := w13) fun b hb => ⟨hb, hb13.block b (Nat.lt_of_lt_of_le hb.2 LW14.out)⟩)
  have LW15 := Lib.hid (show w5.heap.size ≤ (w13).heap.size from Nat.le_trans LW14.out hb13.size)
  have Ox015 := Lib.hid (Ox014.out.keep (S' := Btw ((w5.alloc (.cells #[.int .i64 ((treesV t0 (t1.map patOf)).1).op, .int .i64 ((treesV t0 (t1.map patOf)).1).n, .slice DOR1 ((treesV t0 (t1.map patOf)).1).path.length dor1, .string ((treesV t0 (t1.map patOf)).1).s, .slice DOR2 ((treesV t0 (t1.map patOf)).1).kids.length dor2] 29)).heap.size) (w6.heap.size)) (w' := w13) fun b hb => ⟨hb, hb13.block b (Nat.lt_of_lt_of_le hb.2 Lx014.out)⟩)
  have Lx015 := Lib.hid (show w6.heap.size ≤ (w13).heap.size from Nat.le_trans Lx014.out hb13.size)
  have Ox115 := Lib.hid (Ox114.out.keep (S' := Btw ((w6).heap.size) (w7.heap.size)) (w' := w13) fun b hb => ⟨hb, hb13.block b (Nat.lt_of_lt_of_le hb.2 Lx114.out)⟩)
  have Lx115 := Lib.hid (show w7.heap.size ≤ (w13).heap.size from Nat.le_trans Lx114.out hb13.size)
  have OG15 := Lib.hid (OG14.out.keep (S' := Btw ((w7).heap.size) (w8.heap.size)) (w' := w13) fun b hb => ⟨hb, hb13.block b (Nat.lt_of_lt_of_le hb.2 LG14.out)⟩)
  have LG15 := Lib.hid (show w8.heap.size ≤ (w13).heap.size from Nat.le_trans LG14.out hb13.size)
  have bw15 := Lib.hid (bw14.out.below hb13 bw14.out.lt)
  have bg15 := Lib.hid (bg14.out.below hb13 bg14.out.lt)
  have at015 := Lib.hid (at014.out.below hb13 hb13.size)
  have at115 := Lib.hid (at114.out.below hb13 hb13.size)
  have yf115 := Lib.hid (yf114.out.below hb13 hb13.size)
  have hcbw15 := fun i => bw15.out.cell i
  have hcbg15 := fun i => bg15.out.cell i
  obtain ⟨k0, hk0e⟩ : ∃ k0 : Nat, k0 = 1 := ⟨_, rfl⟩
  have hcn0 : cntL GData.cnt t0 ≤ 33554432 := by have := GData.cnts_bulk t0; omega
  have hcn1 : cntL GNode.cnt t1 ≤ 33554432 := by have := GNode.cnts_bulk t1; omega
  go_wp2_with fail
  refine (markDataS' t0 X01 x01 k0 _ (Btw ((w5.alloc (.cells #[.int .i64 ((treesV t0 (t1.map patOf)).1).op, .int .i64 ((treesV t0 (t1.map patOf)).1).n, .slice DOR1 ((treesV t0 (t1.map patOf)).1).path.length dor1, .string ((treesV t0 (t1.map patOf)).1).s, .slice DOR2 ((treesV t0 (t1.map patOf)).1).kids.length dor2] 29)).heap.size) (w6.heap.size)) _ (by omega) (by omega) (by omega) (fun b hb => Nat.lt_of_lt_of_le hb.2 Lx015.out) Ox015.out).mono ?_
  rintro e w14 ⟨rfl, ho14, ht14⟩
  have B16 : Below w.heap.size w w14 := B15.trans (ht14.below (fun b hb => Nat.le_trans Wx0.out hb.1) B15.size)
  have OW16 := Lib.hid (OW15.out.keep (S' := Btw ((w4).heap.size) (w5.heap.size)) (w' := w14) fun b hb => ⟨hb, ht14.block b (Nat.lt_of_lt_of_le hb.2 LW15.out) (fun e => Nat.lt_irrefl _ (Nat.lt_of_lt_of_le hb.2 (Nat.le_trans ZW_x0.out e.1)))⟩)
  have LW16 := Lib.hid (show w5.heap.size ≤ (w14).heap.size from Nat.le_trans LW15.out ht14.size)
  have Ox116 := Lib.hid (Ox115.out.keep (S' := Btw ((w6).heap.size) (w7.heap.size)) (w' := w14) fun b hb => ⟨hb, ht14.block b (Nat.lt_of_lt_of_le hb.2 Lx115.out) (fun e => Nat.lt_irrefl _ (Nat.lt_of_lt_of_le e.2 (Nat.le_trans Zx0_x1.out hb.1)))⟩)
  have Lx116 := Lib.hid (show w7.heap.size ≤ (w14).heap.size from Nat.le_trans Lx115.out ht14.size)
  have OG16 := Lib.hid (OG15.out.keep (S' := Btw ((w7).heap.size) (w8.heap.size)) (w' := w14) fun b hb => ⟨hb, ht14.block b (Nat.lt_of_lt_of_le hb.2 LG15.out) (fun e => Nat.lt_irrefl _ (Nat.lt_of_lt_of_le e.2 (Nat.le_trans Zx0_G.out hb.1)))⟩)
  have LG16 := Lib.hid (show w8.heap.size ≤ (w14).heap.size from Nat.le_trans LG15.out ht14.size)
  have bw16 : Hid (Row w14 (w5.heap.size) 29 #[.int .i64 ((treesV t0 (t1.map patOf)).1).op, .int .i64 ((treesV t0 (t1.map patOf)).1).n, .slice DOR1 ((treesV t0 (t1.map patOf)).1).path.length dor1, .string ((treesV t0 (t1.map patOf)).1).s, .slice DOR2 ((treesV t0 (t1.map patOf)).1).kids.length dor2]) := Lib.hid ((ht14.block (w5.heap.size) bw15.out.lt (fun e => Nat.lt_irrefl _ (Nat.lt_of_lt_of_le Xbw_x0.out e.1))).trans bw15.out)
  have bg16 : Hid (Row w14 (w8.heap.size) 29 #[.int .i64 ((treesV t0 (t1.map patOf)).1).op, .int .i64 ((treesV t0 (t1.map patOf)).1).n, .slice GR1 ((treesV t0 (t1.map patOf)).1).path.length gr1, .string ((treesV t0 (t1.map patOf)).1).s, .slice GR2 ((treesV t0 (t1.map patOf)).1).kids.length gr2]) := Lib.hid ((ht14.block (w8.heap.size) bg15.out.lt (fun e => Nat.lt_irrefl _ (Nat.lt_of_lt_of_le e.2 Yx0_bg.out))).trans bg15.out)
  have at016 := Lib.hid (at00.out.below B16 B16.size)
  have at116 := Lib.hid (at10.out.below B16 B16.size)
  have hcbw16 := fun i => bw16.out.cell i
  have hcbg16 := fun i => bg16.out.cell i
  obtain ⟨k1, hk1e⟩ : ∃ k1 : Nat, k1 = k0 + cntL GData.cnt t0 := ⟨_, rfl⟩
  rw [← hk1e]
  go_wp2_with fail
  refine (markNodeS' t1 X11 x11 k1 _ (Btw ((w6).heap.size) (w7.heap.size)) _ (by omega) (by omega) (by omega) (fun b hb => Nat.lt_of_lt_of_le hb.2 Lx116.out) Ox116.out).mono ?_
  rintro e w15 ⟨rfl, ho15, ht15⟩
  have B17 : Below w.heap.size w w15 := B16.trans (ht15.below (fun b hb => Nat.le_trans Wx1.out hb.1) B16.size)
  have OW17 := Lib.hid (OW16.out.keep (S' := Btw ((w4).heap.size) (w5.heap.size)) (w' := w15) fun b hb => ⟨hb, ht15.block b (Nat.lt_of_lt_of_le hb.2 LW16.out) (fun e => Nat.lt_irrefl _ (Nat.lt_of_lt_of_le hb.2 (Nat.le_trans ZW_x1.out e.1)))⟩)
  have LW17 := Lib.hid (show w5.heap.size ≤ (w15).heap.size from Nat.le_trans LW16.out ht15.size)
  have OG17 := Lib.hid (OG16.out.keep (S' := Btw ((w7).heap.size) (w8.heap.size)) (w' := w15) fun b hb => ⟨hb, ht15.block b (Nat.lt_of_lt_of_le hb.2 LG16.out) (fun e => Nat.lt_irrefl _ (Nat.lt_of_lt_of_le e.2 (Nat.le_trans Zx1_G.out hb.1)))⟩)
  have LG17 := Lib.hid (show w8.heap.size ≤ (w15).heap.size from Nat.le_trans LG16.out ht15.size)
  have bw17 : Hid (Row w15 (w5.heap.size) 29 #[.int .i64 ((treesV t0 (t1.map patOf)).1).op, .int .i64 ((treesV t0 (t1.map patOf)).1).n, .slice DOR1 ((treesV t0 (t1.map patOf)).1).path.length dor1, .string ((treesV t0 (t1.map patOf)).1).s, .slice DOR2 ((treesV t0 (t1.map patOf)).1).kids.length dor2]) := Lib.hid ((ht15.block (w5.heap.size) bw16.out.lt (fun e => Nat.lt_irrefl _ (Nat.lt_of_lt_of_le Xbw_x1.out e.1))).trans bw16.out)
  have bg17 : Hid (Row w15 (w8.heap.size) 29 #[.int .i64 ((treesV t0 (t1.map patOf)).1).op, .int .i64 ((treesV t0 (t1.map patOf)).1).n, .slice GR1 ((treesV t0 (t1.map patOf)).1).path.length gr1, .string ((treesV t0 (t1.map patOf)).1).s, .slice GR2 ((treesV t0 (t1.map patOf)).1).kids.length gr2]) := Lib.hid ((ht15.block (w8.heap.size) bg16.out.lt (fun e => Nat.lt_irrefl _ (Nat.lt_of_lt_of_le e.2 Yx1_bg.out))).trans bg16.out)
  have at017 := Lib.hid (at00.out.below B17 B17.size)
  have at117 := Lib.hid (at10.out.below B17 B17.size)
  have hcbw17 := fun i => bw17.out.cell i
  have hcbg17 := fun i => bg17.out.cell i
  obtain ⟨k2, hk2e⟩ : ∃ k2 : Nat, k2 = k1 + cntL GNode.cnt t1 := ⟨_, rfl⟩
  rw [← hk2e]
  go_wp2_with fail
  refine (eqTree' ((treesV t0 (t1.map patOf)).1) GR1 gr1 GR2 gr2 DOR1 dor1 DOR2 dor2 _ (OG17.out.at.keep fun b hb => ⟨Nat.lt_of_lt_of_le hb.2 LG17.out, rfl⟩) (OW17.out.at.keep fun b hb => ⟨Nat.lt_of_lt_of_le hb.2 LW17.out, rfl⟩)).mono ?_
  rintro e w16 ⟨rfl, hb16⟩
  have B18 := B17.trans (hb16.mono B17.size)
  have OW18 := Lib.hid (OW17.out.keep (S' := Btw ((w4).heap.size) (w5.heap.size)) (w' := w16) fun b hb => ⟨hb, hb16.block b (Nat.lt_of_lt_of_le hb.2 LW17.out)⟩)
  have LW18 := Lib.hid (show w5.heap.size ≤ (w16).heap.size from Nat.le_trans LW17.out hb16.size)
  have OG18 := Lib.hid (OG17.out.keep (S' := Btw ((w7).heap.size) (w8.heap.size)) (w' := w16) fun b hb => ⟨hb, hb16.block b (Nat.lt_of_lt_of_le hb.2 LG17.out)⟩)
  have LG18 := Lib.hid (show w8.heap.size ≤ (w16).heap.size from Nat.le_trans LG17.out hb16.size)
  have bw18 := Lib.hid (bw17.out.below hb16 bw17.out.lt)
  have bg18 := Lib.hid (bg17.out.below hb16 bg17.out.lt)
  have at018 := Lib.hid (at017.out.below hb16 hb16.size)
  have at118 := Lib.hid (at117.out.below hb16 hb16.size)
  have hcbw18 := fun i => bw18.out.cell i
  have hcbg18 := fun i => bg18.out.cell i
  have hcr : ((treesV t0 (t1.map patOf)).1).cnt0 ≤ 2305843009213693952 := by have := (treesV t0 (t1.map patOf)).1.cnt0_le; have := (treesV t0 (t1.map patOf)).1.cnt_bulk; have := treesV_bulk t0 t1 hm1; omega
  go_wp2_with fail
  refine (markTree0 ((treesV t0 (t1.map patOf)).1) GR1 gr1 GR2 gr2 k0 _ (Btw ((w7).heap.size) (w8.heap.size)) _ (by omega) (by omega) (by omega) (fun b hb => Nat.lt_of_lt_of_le hb.2 LG18.out) OG18.out).mono ?_
  rintro e w17 ⟨rfl, ho17, ht17⟩
  have B19 : Below w.heap.size w w17 := B18.trans (ht17.below (fun b hb => Nat.le_trans WG.out hb.1) B18.size)
  have OW19 := Lib.hid (OW18.out.keep (S' := Btw ((w4).heap.size) (w5.heap.size)) (w' := w17) fun b hb => ⟨hb, ht17.block b (Nat.lt_of_lt_of_le hb.2 LW18.out) (fun e => Nat.lt_irrefl _ (Nat.lt_of_lt_of_le hb.2 (Nat.le_trans ZW_G.out e.1)))⟩)
  have LW19 := Lib.hid (show w5.heap.size ≤ (w17).heap.size from Nat.le_trans LW18.out ht17.size)
  have bw19 : Hid (Row w17 (w5.heap.size) 29 #[.int .i64 ((treesV t0 (t1.map patOf)).1).op, .int .i64 ((treesV t0 (t1.map patOf)).1).n, .slice DOR1 ((treesV t0 (t1.map patOf)).1).path.length dor1, .string ((treesV t0 (t1.map patOf)).1).s, .slice DOR2 ((treesV t0 (t1.map patOf)).1).kids.length dor2]) := Lib.hid ((ht17.block (w5.heap.size) bw18.out.lt (fun e => Nat.lt_irrefl _ (Nat.lt_of_lt_of_le Xbw_G.out e.1))).trans bw18.out)
  have bg19 : Hid (Row w17 (w8.heap.size) 29 #[.int .i64 ((treesV t0 (t1.map patOf)).1).op, .int .i64 ((treesV t0 (t1.map patOf)).1).n, .slice GR1 ((treesV t0 (t1.map patOf)).1).path.length gr1, .string ((treesV t0 (t1.map patOf)).1).s, .slice GR2 ((treesV t0 (t1.map patOf)).1).kids.length gr2]) := Lib.hid ((ht17.block (w8.heap.size) bg18.out.lt (fun e => Nat.lt_irrefl _ (Nat.lt_of_lt_of_le e.2 YG_bg.out))).trans bg18.out)
  have at019 := Lib.hid (at00.out.below B19 B19.size)
  have at119 := Lib.hid (at10.out.below B19 B19.size)
  have OG19 := Lib.hid ho17
  have LG19 := Lib.hid (show w8.heap.size ≤ (w17).heap.size from Nat.le_trans LG18.out ht17.size)
  have hcbw19 := fun i => bw19.out.cell i
  have hcbg19 := fun i => bg19.out.cell i
  obtain ⟨km, hkm⟩ : ∃ km : Nat, km = k0 + ((treesV t0 (t1.map patOf)).1).cnt0 := ⟨_, rfl⟩
  rw [← hkm]
  go_wp2_with fail
  refine (heldTree0 ((treesV t0 (t1.map patOf)).1) GR1 gr1 GR2 gr2 k0 _ _ (by omega) (by omega) (by omega) (OG19.out.at.keep fun b hb => ⟨Nat.lt_of_lt_of_le hb.2 LG19.out, rfl⟩)).mono ?_
  rintro e w18 ⟨rfl, hb18⟩
  have B20 := B19.trans (hb18.mono B19.size)
  have OW20 := Lib.hid (OW19.out.keep (S' := Btw ((w4).heap.size) (w5.heap.size)) (w' := w18) fun b hb => ⟨hb, hb18.block b (Nat.lt_of_lt_of_le hb.2 LW19.out)⟩)
  have LW20 := Lib.hid (show w5.heap.size ≤ (w18).heap.size from Nat.le_trans LW19.out hb18.size)
  have OG20 := Lib.hid (OG19.out.keep (S' := Btw ((w7).heap.size) (w8.heap.size)) (w' := w18) fun b hb => ⟨hb, hb18.block b (Nat.lt_of_lt_of_le hb.2 LG19.out)⟩)
  have LG20 := Lib.hid (show w8.heap.size ≤ (w18).heap.size from Nat.le_trans LG19.out hb18.size)
  have bw20 := Lib.hid (bw19.out.below hb18 bw19.out.lt)
  have bg20 := Lib.hid (bg19.out.below hb18 bg19.out.lt)
  have at020 := Lib.hid (at019.out.below hb18 hb18.size)
  have at120 := Lib.hid (at119.out.below hb18 hb18.size)
  have hcbw20 := fun i => bw20.out.cell i
  have hcbg20 := fun i => bg20.out.cell i
  rw [← hkm]
  go_wp2_with fail
  refine (toDataS' t0 A0 c0 _ at020.out hm0).mono ?_
  rintro e w19 ⟨Z01, z01, rfl, owz0, hb19⟩
  have B21 := B20.trans (hb19.mono B20.size)
  have OW21 := Lib.hid (OW20.out.keep (S' := Btw ((w4).heap.size) (w5.heap.size)) (w' := w19) fun b hb => ⟨hb, hb19.block b (Nat.lt_of_lt_of_le hb.2 LW20.out)⟩)
  have LW21 := Lib.hid (show w5.heap.size ≤ (w19).heap.size from Nat.le_trans LW20.out hb19.size)
  have OG21 := Lib.hid (OG20.out.keep (S' := Btw ((w7).heap.size) (w8.heap.size)) (w' := w19) fun b hb => ⟨hb, hb19.block b (Nat.lt_of_lt_of_le hb.2 LG20.out)⟩)
  have LG21 := Lib.hid (show w8.heap.size ≤ (w19).heap.size from Nat.le_trans LG20.out hb19.size)
  have bw21 := Lib.hid (bw20.out.below hb19 bw20.out.lt)
  have bg21 := Lib.hid (bg20.out.below hb19 bg20.out.lt)
  have at021 := Lib.hid (at020.out.below hb19 hb19.size)
  have at121 := Lib.hid (at120.out.below hb19 hb19.size)
  have zf021 := Lib.hid (owz0.slLt)
  have hcbw21 := fun i => bw21.out.cell i
  have hcbg21 := fun i => bg21.out.cell i
  go_wp2_with fail
  refine (toNodeS' t1 A1 c1 _ at121.out hm1).mono ?_
  rintro e w20 ⟨Z11, z11, rfl, owz1, hb20⟩
  have B22 := B21.trans (hb20.mono B21.size)
  have OW22 := Lib.hid (OW21.out.keep (S' := Btw ((w4).heap.size) (w5.heap.size)) (w' := w20) fun b hb => ⟨hb, hb20.block b (Nat.lt_of_lt_of_le hb.2 LW21.out)⟩)
  have LW22 := Lib.hid (show w5.heap.size ≤ (w20).heap.size from Nat.le_trans LW21.out hb20.size)
  have OG22 := Lib.hid (OG21.out.keep (S' := Btw ((w7).heap.size) (w8.heap.size)) (w' := w20) fun b hb => ⟨hb, hb20.block b (Nat.lt_of_lt_of_le hb.2 LG21.out)⟩)
  have LG22 := Lib.hid (show w8.heap.size ≤ (w20).heap.size from Nat.le_trans LG21.out hb20.size)
  have bw22 := Lib.hid (bw21.out.below hb20 bw21.out.lt)
  have bg22 := Lib.hid (bg21.out.below hb20 bg21.out.lt)
  have at022 := Lib.hid (at021.out.below hb20 hb20.size)
  have at122 := Lib.hid (at121.out.below hb20 hb20.size)
  have zf022 := Lib.hid (zf021.out.below hb20 hb20.size)
  have zf122 := Lib.hid (owz1.slLt)
  have hcbw22 := fun i => bw22.out.cell i
  have hcbg22 := fun i => bg22.out.cell i
  go_wp2_with fail
  refine (implTreesL t0 Z01 z01 t1 Z11 z11 _ hm1 zf022.out zf122.out).mono ?_
  rintro e w21 ⟨ZOR1, zor1, ZOR2, zor2, rfl, owzoR, hb21⟩
  have B23 := B22.trans (hb21.mono B22.size)
  have OW23 := Lib.hid (OW22.out.keep (S' := Btw ((w4).heap.size) (w5.heap.size)) (w' := w21) fun b hb => ⟨hb, hb21.block b (Nat.lt_of_lt_of_le hb.2 LW22.out)⟩)
  have LW23 := Lib.hid (show w5.heap.size ≤ (w21).heap.size from Nat.le_trans LW22.out hb21.size)
  have OG23 := Lib.hid (OG22.out.keep (S' := Btw ((w7).heap.size) (w8.heap.size)) (w' := w21) fun b hb => ⟨hb, hb21.block b (Nat.lt_of_lt_of_le hb.2 LG22.out)⟩)
  have LG23 := Lib.hid (show w8.heap.size ≤ (w21).heap.size from Nat.le_trans LG22.out hb21.size)
  have bw23 := Lib.hid (bw22.out.below hb21 bw22.out.lt)
  have bg23 := Lib.hid (bg22.out.below hb21 bg22.out.lt)
  have at023 := Lib.hid (at022.out.below hb21 hb21.size)
  have at123 := Lib.hid (at122.out.below hb21 hb21.size)
  have zf023 := Lib.hid (zf022.out.below hb21 hb21.size)
  have zf123 := Lib.hid (zf122.out.below hb21 hb21.size)
  have ZW_H := Lib.hid (show w5.heap.size ≤ (w20).heap.size from LW22.out)
  have ZG_H := Lib.hid (show w8.heap.size ≤ (w20).heap.size from LG22.out)
  have Xbw_H := Lib.hid (show w5.heap.size < (w20).heap.size from bw22.out.lt)
  have Xbg_H := Lib.hid (show w8.heap.size < (w20).heap.size from bg22.out.lt)
  have WH := Lib.hid (show w.heap.size ≤ (w20).heap.size from B22.size)
  have OH23 := Lib.hid (owzoR)
  have LH23 := Lib.hid (show w21.heap.size ≤ (w21).heap.size from Nat.le_refl _)
  have hcbw23 := fun i => bw23.out.cell i
  have hcbg23 := fun i => bg23.out.cell i
  have E24 : Below (w21).heap.size (w21) (w21.alloc (.cells #[.int .i64 ((treesV t0 (t1.map patOf)).1).op, .int .i64 ((treesV t0 (t1.map patOf)).1).n, .slice ZOR1 ((treesV t0 (t1.map patOf)).1).path.length zor1, .string ((treesV t0 (t1.map patOf)).1).s, .slice ZOR2 ((treesV t0 (t1.map patOf)).1).kids.length zor2] 29)) := (Below.refl _ _).alloc (Nat.le_refl _) _
  have B24 : Below w.heap.size w (w21.alloc (.cells #[.int .i64 ((treesV t0 (t1.map patOf)).1).op, .int .i64 ((treesV t0 (t1.map patOf)).1).n, .slice ZOR1 ((treesV t0 (t1.map patOf)).1).path.length zor1, .string ((treesV t0 (t1.map patOf)).1).s, .slice ZOR2 ((treesV t0 (t1.map patOf)).1).kids.length zor2] 29)) := B23.alloc B23.size _
  have bw24 := Lib.hid (Row.alloc bw23.out (.cells #[.int .i64 ((treesV t0 (t1.map patOf)).1).op, .int .i64 ((treesV t0 (t1.map patOf)).1).n, .slice ZOR1 ((treesV t0 (t1.map patOf)).1).path.length zor1, .string ((treesV t0 (t1.map patOf)).1).s, .slice ZOR2 ((treesV t0 (t1.map patOf)).1).kids.length zor2] 29))
  have bg24 := Lib.hid (Row.alloc bg23.out (.cells #[.int .i64 ((treesV t0 (t1.map patOf)).1).op, .int .i64 ((treesV t0 (t1.map patOf)).1).n, .slice ZOR1 ((treesV t0 (t1.map patOf)).1).path.length zor1, .string ((treesV t0 (t1.map patOf)).1).s, .slice ZOR2 ((treesV t0 (t1.map patOf)).1).kids.length zor2] 29))
  have bh24 := Lib.hid (Row.new' (w21) 29 #[.int .i64 ((treesV t0 (t1.map patOf)).1).op, .int .i64 ((treesV t0 (t1.map patOf)).1).n, .slice ZOR1 ((treesV t0 (t1.map patOf)).1).path.length zor1, .string ((treesV t0 (t1.map patOf)).1).s, .slice ZOR2 ((treesV t0 (t1.map patOf)).1).kids.length zor2] (g := w21.heap.size) rfl)
  have at024 := Lib.hid (at023.out.below E24 E24.size)
  have at124 := Lib.hid (at123.out.below E24 E24.size)
  have OW24 := Lib.hid (OW23.out.keep (S' := Btw ((w4).heap.size) (w5.heap.size)) (w' := w21.alloc (.cells #[.int .i64 ((treesV t0 (t1.map patOf)).1).op, .int .i64 ((treesV t0 (t1.map patOf)).1).n, .slice ZOR1 ((treesV t0 (t1.map patOf)).1).path.length zor1, .string ((treesV t0 (t1.map patOf)).1).s, .slice ZOR2 ((treesV t0 (t1.map patOf)).1).kids.length zor2] 29)) fun b hb => ⟨hb, Below.heap_alloc _ _ _ (Nat.lt_of_lt_of_le hb.2 LW23.out)⟩)
  have LW24 := Lib.hid (show w5.heap.size ≤ (w21.alloc (.cells #[.int .i64 ((treesV t0 (t1.map patOf)).1).op, .int .i64 ((treesV t0 (t1.map patOf)).1).n, .slice ZOR1 ((treesV t0 (t1.map patOf)).1).path.length zor1, .string ((treesV t0 (t1.map patOf)).1).s, .slice ZOR2 ((treesV t0 (t1.map patOf)).1).kids.length zor2] 29)).heap.size from Nat.le_trans LW23.out E24.size)
  have OG24 := Lib.hid (OG23.out.keep (S' := Btw ((w7).heap.size) (w8.heap.size)) (w' := w21.alloc (.cells #[.int .i64 ((treesV t0 (t1.map patOf)).1).op, .int .i64 ((treesV t0 (t1.map patOf)).1).n, .slice ZOR1 ((treesV t0 (t1.map patOf)).1).path.length zor1, .string ((treesV t0 (t1.map patOf)).1).s, .slice ZOR2 ((treesV t0 (t1.map patOf)).1).kids.length zor2] 29)) fun b hb => ⟨hb, Below.heap_alloc _ _ _ (Nat.lt_of_lt_of_le hb.2 LG23.out)⟩)
  have LG24 := Lib.hid (show w8.heap.size ≤ (w21.alloc (.cells #[.int .i64 ((treesV t0 (t1.map patOf)).1).op, .int .i64 ((treesV t0 (t1.map patOf)).1).n, .slice ZOR1 ((treesV t0 (t1.map patOf)).1).path.length zor1, .string ((treesV t0 (t1.map patOf)).1).s, .slice ZOR2 ((treesV t0 (t1.map patOf)).1).kids.length zor2] 29)).heap.size from Nat.le_trans LG23.out E24.size)
  have OH24 := Lib.hid (OH23.out.keep (S' := Btw ((w20).heap.size) (w21.heap.size)) (w' := w21.alloc (.cells #[.int .i64 ((treesV t0 (t1.map patOf)).1).op, .int .i64 ((treesV t0 (t1.map patOf)).1).n, .slice ZOR1 ((treesV t0 (t1.map patOf)).1).path.length zor1, .string ((treesV t0 (t1.map patOf)).1).s, .slice ZOR2 ((treesV t0 (t1.map patOf)).1).kids.length zor2] 29)) fun b hb => ⟨hb, Below.heap_alloc _ _ _ (Nat.lt_of_lt_of_le hb.2 LH23.out)⟩)
  have LH24 := Lib.hid (show w21.heap.size ≤ (w21.alloc (.cells #[.int .i64 ((treesV t0 (t1.map patOf)).1).op, .int .i64 ((treesV t0 (t1.map patOf)).1).n, .slice ZOR1 ((treesV t0 (t1.map patOf)).1).path.length zor1, .string ((treesV t0 (t1.map patOf)).1).s, .slice ZOR2 ((treesV t0 (t1.map patOf)).1).kids.length zor2] 29)).heap.size from Nat.le_trans LH23.out E24.size)
  have YW_bh := Lib.hid (show w5.heap.size ≤ w21.heap.size from by have := LW23.out; simpa using this)
  have YG_bh := Lib.hid (show w8.heap.size ≤ w21.heap.size from by have := LG23.out; simpa using this)
  have YH_bh := Lib.hid (show w21.heap.size ≤ w21.heap.size from by have := LH23.out; simpa using this)
  have hcbw24 := fun i => bw24.out.cell i
  have hcbg24 := fun i => bg24.out.cell i
  have hcbh24 := fun i => bh24.out.cell i
  go_wp2_with fail
  refine (eqTree' ((treesV t0 (t1.map patOf)).1) ZOR1 zor1 ZOR2 zor2 DOR1 dor1 DOR2 dor2 _ (OH24.out.at.keep fun b hb => ⟨Nat.lt_of_lt_of_le hb.2 LH24.out, rfl⟩) (OW24.out.at.keep fun b hb => ⟨Nat.lt_of_lt_of_le hb.2 LW24.out, rfl⟩)).mono ?_
  rintro e w22 ⟨rfl, hb22⟩
  have B25 := B24.trans (hb22.mono B24.size)
  have OW25 := Lib.hid (OW24.out.keep (S' := Btw ((w4).heap.size) (w5.heap.size)) (w' := w22) fun b hb => ⟨hb, hb22.block b (Nat.lt_of_lt_of_le hb.2 LW24.out)⟩)
  have LW25 := Lib.hid (show w5.heap.size ≤ (w22).heap.size from Nat.le_trans LW24.out hb22.size)
  have OG25 := Lib.hid (OG24.out.keep (S' := Btw ((w7).heap.size) (w8.heap.size)) (w' := w22) fun b hb => ⟨hb, hb22.block b (Nat.lt_of_lt_of_le hb.2 LG24.out)⟩)
  have LG25 := Lib.hid (show w8.heap.size ≤ (w22).heap.size from Nat.le_trans LG24.out hb22.size)
  have OH25 := Lib.hid (OH24.out.keep (S' := Btw ((w20).heap.size) (w21.heap.size)) (w' := w22) fun b hb => ⟨hb, hb22.block b (Nat.lt_of_lt_of_le hb.2 LH24.out)⟩)
  have LH25 := Lib.hid (show w21.heap.size ≤ (w22).heap.size from Nat.le_trans LH24.out hb22.size)
  have bw25 := Lib.hid (bw24.out.below hb22 bw24.out.lt)
  have bg25 := Lib.hid (bg24.out.below hb22 bg24.out.lt)
  have bh25 := Lib.hid (bh24.out.below hb22 bh24.out.lt)
  have at025 := Lib.hid (at024.out.below hb22 hb22.size)
  have at125 := Lib.hid (at124.out.below hb22 hb22.size)
  have hcbw25 := fun i => bw25.out.cell i
  have hcbg25 := fun i => bg25.out.cell i
  have hcbh25 := fun i => bh25.out.cell i
  go_wp2_with fail
  refine (heldTree0 ((treesV t0 (t1.map patOf)).1) GR1 gr1 GR2 gr2 k0 _ _ (by omega) (by omega) (by omega) (OG25.out.at.keep fun b hb => ⟨Nat.lt_of_lt_of_le hb.2 LG25.out, rfl⟩)).mono ?_
  rintro e w23 ⟨rfl, hb23⟩
  have B26 := B25.trans (hb23.mono B25.size)
  have OW26 := Lib.hid (OW25.out.keep (S' := Btw ((w4).heap.size) (w5.heap.size)) (w' := w23) fun b hb => ⟨hb, hb23.block b (Nat.lt_of_lt_of_le hb.2 LW25.out)⟩)
  have LW26 := Lib.hid (show w5.heap.size ≤ (w23).heap.size from Nat.le_trans LW25.out hb23.size)
  have OG26 := Lib.hid (OG25.out.keep (S' := Btw ((w7).heap.size) (w8.heap.size)) (w' := w23) fun b hb => ⟨hb, hb23.block b (Nat.lt_of_lt_of_le hb.2 LG25.out)⟩)
  have LG26 := Lib.hid (show w8.heap.size ≤ (w23).heap.size from Nat.le_trans LG25.out hb23.size)
  have OH26 := Lib.hid (OH25.out.keep (S' := Btw ((w20).heap.size) (w21.heap.size)) (w' := w23) fun b hb => ⟨hb, hb23.block b (Nat.lt_of_lt_of_le hb.2 LH25.out)⟩)
  have LH26 := Lib.hid (show w21.heap.size ≤ (w23).heap.size from Nat.le_trans LH25.out hb23.size)
  have bw26 := Lib.hid (bw25.out.below hb23 bw25.out.lt)
  have bg26 := Lib.hid (bg25.out.below hb23 bg25.out.lt)
  have bh26 := Lib.hid (bh25.out.below hb23 bh25.out.lt)
  have at026 := Lib.hid (at025.out.below hb23 hb23.size)
  have at126 := Lib.hid (at125.out.below hb23 hb23.size)
  have hcbw26 := fun i => bw26.out.cell i
  have hcbg26 := fun i => bg26.out.cell i
  have hcbh26 := fun i => bh26.out.cell i
  rw [← hkm]
  go_wp2_with fail
  go_ret
  exact ⟨rfl, B26⟩
end Go.Proofs.Ytnpkmebnmklcfaa

/- The closed facts of a row, one by one (no program in sight). Conditions: none. -/
namespace Go.Proofs.Ytnpkmebnmklcfaa
open Go.ChangeShapes Go.WideShapes Go.ChangeAt Go.RowKit
set_option linter.unusedVariables false

/-- the number kinds of the parameters of a row with a domain -/
def kindsOf (P : Program) (fn : Func) (c : OpenClaim) : List (Option IntKind) := if c.domain.isEmpty then [] else fn.params.toList.map fun t => match P.underlying t with | some (.int k) => some k | _ => none
theorem joinedAnd {a b : Bool} (h : a = true) (h2 : b = true) : (a && b) = true := by rw [h, h2]; rfl
set_option maxRecDepth 10000 in
theorem joinedOf {P : Program} {f : FuncId} {fn : Func} {s : ChangeSpec} {c : OpenClaim} (h0 : (c.wf (OpenSpec.ofChange s)) = true) (h1 : (laidOutB P) = true) (h2 : (mapsRowed P) = true) (h3 : (fn.params.all (P.readableRec ·)) = true) (h4 : (namedTie P c.named s.vars) = true) (h5 : (c.stops == []) = true) (h6 : (P.stops == []) = true) (h7 : (c.knobs == []) = true) (h8 : (P.stopKnobs == []) = true) (h9 : (c.inPlace == P.inPlace f) = true) (h10 : (c.unfollowed == P.unfollowed f) = true) (h11 : (c.recurses == P.recurses f) = true) (h12 : (c.named == P.varsNamed f) = true) (h13 : (c.maps == (fn.params.toList ++ s.plain.varTypes P).any (P.mapsRec ·)) = true) (h14 : (c.ifaces == (fn.params.toList ++ s.plain.varTypes P).any (P.ifacesRec ·)) = true) (h15 : (c.mapsOut == P.mapsAmong fn.resultTypes.toList) = true) (h16 : (c.loops == (fn.params.toList ++ s.plain.varTypes P).any (P.loopsFrom ·)) = true) (h17 : (c.wideKeys == (fn.params.toList ++ s.plain.varTypes P ++ fn.resultTypes.toList).any (P.wideKeysFrom ·)) = true) (h18 : (s.vars.all (P.varReadable ·)) = true) (h19 : (fn.resultTypes.all (fun t => P.readableRec t && decide (t < P.types.size))) = true) (h20 : (c.ifacesOut == fn.resultTypes.toList.any (P.ifacesRec ·)) = true) (h21 : (c.loopsOut == fn.resultTypes.toList.any (P.loopsFrom ·)) = true) (h22 : (c.plainKeys == P.plainKeys) = true) (h23 : (c.shortTexts.isNone) = true) (h24 : (P.stopsHeard) = true) (h25 : (P.mayEnter) = true) (h26 : (c.lifted == P.liftsFinal) = true) (h27 : (P.make == some c.make) = true) (h28 : (c.kinds == kindsOf P fn c) = true) (h29 : (c.pinned == c.pinnedBy) = true) (h30 : (c.veiled == (fn.params.toList ++ s.plain.varTypes P ++ fn.resultTypes.toList).any (P.veiledRec ·)) = true) (h31 : (c.veiledFits P fn.params.toList (fn.params.toList ++ s.plain.varTypes P ++ fn.resultTypes.toList)) = true) : joinedFacts P f fn s c = true := by
  unfold joinedFacts
  exact (joinedAnd (joinedAnd (joinedAnd (joinedAnd (joinedAnd (joinedAnd (joinedAnd (joinedAnd (joinedAnd (joinedAnd (joinedAnd (joinedAnd (joinedAnd (joinedAnd (joinedAnd (joinedAnd (joinedAnd (joinedAnd (joinedAnd (joinedAnd (joinedAnd (joinedAnd (joinedAnd (joinedAnd (joinedAnd (joinedAnd (joinedAnd (joinedAnd (joinedAnd (joinedAnd (joinedAnd h0 h1) h2) h3) h4) h5) h6) h7) h8) h9) h10) h11) h12) h13) h14) h15) h16) h17) h18) h19) h20) h21) h22) h23) h24) h25) h26) h27) h28) h29) h30) h31)
end Go.Proofs.Ytnpkmebnmklcfaa

/- An argument of type Ty, as the statement reads it, is data in memory. Conditions: none. -/
namespace Go.Proofs.Ytnpkmebnmklcfaa
open Go.ChangeShapes Go.WideShapes Go.ChangeAt Go.RowKit Go.Deep
set_option linter.unusedVariables false
set_option linter.unusedSimpArgs false

set_option maxRecDepth 20000 in
theorem openTy {H : Type} {enc : TypeId × Value → H} {w : World} {sp : Nat → Bool} {held : Bool} (fuel : Nat) : ∀ (cs : List Value) (x : DataW H × List MemPlace), DataW.trod enc Try.prog w 0 sp held fuel 131 cs = some x → ∃ t : GTy, t.toD.rd w (Lt w.heap.size) cs := by
  induction fuel using Nat.strongRecOn with
  | _ fuel ih =>
  intro cs x h
  obtain ⟨xs, n, rfl, _, hl, hxl, hf⟩ := DataW.trod_struct Try.underlying131 h
  have hl2 : cs.length = 4 := hl.trans (by kernel_rfl)
  match cs, hl2 with
  | [v0, v1, v2, v3], _ =>
  obtain ⟨z0, e0⟩ := fld hf hxl 0 3 0 1 rfl (by kernel_rfl)
  replace e0 : DataW.trod enc Try.prog w 0 sp held n 3 [v0] = some z0 := e0
  obtain ⟨z1, e1⟩ := fld hf hxl 1 3 1 1 rfl (by kernel_rfl)
  replace e1 : DataW.trod enc Try.prog w 0 sp held n 3 [v1] = some z1 := e1
  obtain ⟨z2, e2⟩ := fld hf hxl 2 9 2 1 rfl (by kernel_rfl)
  replace e2 : DataW.trod enc Try.prog w 0 sp held n 9 [v2] = some z2 := e2
  obtain ⟨z3, e3⟩ := fld hf hxl 3 109 3 1 rfl (by kernel_rfl)
  replace e3 : DataW.trod enc Try.prog w 0 sp held n 109 [v3] = some z3 := e3
  obtain ⟨y0, a0, _, b0⟩ := DataW.trod_int Try.underlying3 e0
  obtain ⟨y1, a1, _, b1⟩ := DataW.trod_int Try.underlying3 e1
  obtain ⟨y2, a2, _, b2⟩ := DataW.trod_string Try.underlying9 e2
  obtain ⟨y3, a3⟩ := open_sl 4 (by decide) Try.underlying109 (by kernel_rfl) GTy.toD (fun n2 cs x hn h => ih n2 (by omega) cs x h) e3
  refine ⟨GTy.mk y0 y1 y2 y3, ?_⟩
  simp only [GTy.toD, GTy.toDs_map]
  rw [D.rd_agg]
  exact D.rdF_cons.2 ⟨[v0], [v1, v2, v3], rfl, D.rd_num.2 ⟨a0, b0⟩, D.rdF_cons.2 ⟨[v1], [v2, v3], rfl, D.rd_num.2 ⟨a1, b1⟩, D.rdF_cons.2 ⟨[v2], [v3], rfl, D.rd_str.2 ⟨a2, b2⟩, D.rdF_cons.2 ⟨[v3], [], rfl, a3, D.rdF_nil.2 rfl⟩⟩⟩⟩

set_option maxRecDepth 20000 in
/-- the argument itself -/
theorem argTy {H : Type} {enc : TypeId × Value → H} {w : World} {r : Go.Reach} {base : Nat} {sp : Nat → Bool} {held : Bool} {v : Value} {d : DataW H} {p : List MemPlace} (hv : Value.okWide Try.prog w r base 131 v) (h : DataW.Trod enc Try.prog w 0 sp held 131 v d p) :
    ∃ (t : GTy) (A1 : Option Addr) (c1 : Nat), v = .agg #[.int .i64 t.op, .int .i64 t.n, .string t.s, .slice A1 t.kids.length c1] ∧ GTy.At w (Lt w.heap.size) A1 c1 t := by
  obtain ⟨cs, rfl, _⟩ := okWide_struct Try.underlying131 hv
  obtain ⟨fuel, hf⟩ := h
  obtain ⟨t, ht⟩ := openTy fuel _ _ hf
  obtain ⟨A1, c1, e, hat⟩ := GTy.rd ht
  have e2 : cs.toList = _ := e
  refine ⟨t, A1, c1, ?_, hat⟩
  congr 1
  apply Array.toList_inj.1
  rw [e2]

set_option maxRecDepth 20000 in
/-- an argument that is a slice of them -/
theorem argTyS {H : Type} {enc : TypeId × Value → H} {w : World} {r : Go.Reach} {base : Nat} {sp : Nat → Bool} {held : Bool} {v : Value} {d : DataW H} {p : List MemPlace} (hv : Value.okWide Try.prog w r base 109 v) (h : DataW.Trod enc Try.prog w 0 sp held 109 v d p) :
    ∃ (l : List GTy) (A : Option Addr) (c : Nat), v = .slice A l.length c ∧ Sl w (Lt w.heap.size) 4 A c (l.map GTy.toD) := by
  obtain ⟨a, len, cap, rfl⟩ := okWide_slice Try.underlying109 hv
  obtain ⟨fuel, hf⟩ := h
  obtain ⟨l, hl⟩ := open_sl 4 (by decide) Try.underlying109 (by kernel_rfl) GTy.toD (fun n2 cs x hn h => openTy n2 cs x h) hf
  obtain ⟨A, c, e, hs⟩ := D.rd_sl.1 hl
  simp only [Value.cells, List.cons.injEq, List.length_map, and_true] at e
  exact ⟨l, A, c, e, hs⟩
end Go.Proofs.Ytnpkmebnmklcfaa

/- An argument of type Con, as the statement reads it, is data in memory. Conditions: none. -/
namespace Go.Proofs.Ytnpkmebnmklcfaa
open Go.ChangeShapes Go.WideShapes Go.ChangeAt Go.RowKit Go.Deep
set_option linter.unusedVariables false
set_option linter.unusedSimpArgs false

set_option maxRecDepth 20000 in
theorem openCon {H : Type} {enc : TypeId × Value → H} {w : World} {sp : Nat → Bool} {held : Bool} (fuel : Nat) : ∀ (cs : List Value) (x : DataW H × List MemPlace), DataW.trod enc Try.prog w 0 sp held fuel 111 cs = some x → ∃ t : GCon, t.toD.rd w (Lt w.heap.size) cs := by
  induction fuel using Nat.strongRecOn with
  | _ fuel ih =>
  intro cs x h
  obtain ⟨xs, n, rfl, _, hl, hxl, hf⟩ := DataW.trod_struct Try.underlying111 h
  have hl2 : cs.length = 2 := hl.trans (by kernel_rfl)
  match cs, hl2 with
  | [v0, v1], _ =>
  obtain ⟨z0, e0⟩ := fld hf hxl 0 9 0 1 rfl (by kernel_rfl)
  replace e0 : DataW.trod enc Try.prog w 0 sp held n 9 [v0] = some z0 := e0
  obtain ⟨z1, e1⟩ := fld hf hxl 1 109 1 1 rfl (by kernel_rfl)
  replace e1 : DataW.trod enc Try.prog w 0 sp held n 109 [v1] = some z1 := e1
  obtain ⟨y0, a0, _, b0⟩ := DataW.trod_string Try.underlying9 e0
  obtain ⟨y1, a1⟩ := open_sl 4 (by decide) Try.underlying109 (by kernel_rfl) GTy.toD (fun n2 cs x hn h => openTy n2 cs x h) e1
  refine ⟨⟨y0, y1⟩, ?_⟩
  unfold GCon.toD
  rw [D.rd_agg]
  exact D.rdF_cons.2 ⟨[v0], [v1], rfl, D.rd_str.2 ⟨a0, b0⟩, D.rdF_cons.2 ⟨[v1], [], rfl, a1, D.rdF_nil.2 rfl⟩⟩

set_option maxRecDepth 20000 in
/-- the argument itself -/
theorem argCon {H : Type} {enc : TypeId × Value → H} {w : World} {r : Go.Reach} {base : Nat} {sp : Nat → Bool} {held : Bool} {v : Value} {d : DataW H} {p : List MemPlace} (hv : Value.okWide Try.prog w r base 111 v) (h : DataW.Trod enc Try.prog w 0 sp held 111 v d p) :
    ∃ (t : GCon) (A1 : Option Addr) (c1 : Nat), v = .agg #[.string t.name, .slice A1 t.args.length c1] ∧ GCon.At w (Lt w.heap.size) A1 c1 t := by
  obtain ⟨cs, rfl, _⟩ := okWide_struct Try.underlying111 hv
  obtain ⟨fuel, hf⟩ := h
  obtain ⟨t, ht⟩ := openCon fuel _ _ hf
  obtain ⟨A1, c1, e, hat⟩ := GCon.rd ht
  have e2 : cs.toList = _ := e
  refine ⟨t, A1, c1, ?_, hat⟩
  congr 1
  apply Array.toList_inj.1
  rw [e2]

set_option maxRecDepth 20000 in
/-- an argument that is a slice of them -/
theorem argConS {H : Type} {enc : TypeId × Value → H} {w : World} {r : Go.Reach} {base : Nat} {sp : Nat → Bool} {held : Bool} {v : Value} {d : DataW H} {p : List MemPlace} (hv : Value.okWide Try.prog w r base 44 v) (h : DataW.Trod enc Try.prog w 0 sp held 44 v d p) :
    ∃ (l : List GCon) (A : Option Addr) (c : Nat), v = .slice A l.length c ∧ Sl w (Lt w.heap.size) 2 A c (l.map GCon.toD) := by
  obtain ⟨a, len, cap, rfl⟩ := okWide_slice Try.underlying44 hv
  obtain ⟨fuel, hf⟩ := h
  obtain ⟨l, hl⟩ := open_sl 2 (by decide) Try.underlying44 (by kernel_rfl) GCon.toD (fun n2 cs x hn h => openCon n2 cs x h) hf
  obtain ⟨A, c, e, hs⟩ := D.rd_sl.1 hl
  simp only [Value.cells, List.cons.injEq, List.length_map, and_true] at e
  exact ⟨l, A, c, e, hs⟩
end Go.Proofs.Ytnpkmebnmklcfaa

/- An argument of type Data, as the statement reads it, is data in memory. Conditions: none. -/
namespace Go.Proofs.Ytnpkmebnmklcfaa
open Go.ChangeShapes Go.WideShapes Go.ChangeAt Go.RowKit Go.Deep
set_option linter.unusedVariables false
set_option linter.unusedSimpArgs false

set_option maxRecDepth 20000 in
theorem openData {H : Type} {enc : TypeId × Value → H} {w : World} {sp : Nat → Bool} {held : Bool} (fuel : Nat) : ∀ (cs : List Value) (x : DataW H × List MemPlace), DataW.trod enc Try.prog w 0 sp held fuel 46 cs = some x → ∃ t : GData, t.toD.rd w (Lt w.heap.size) cs := by
  induction fuel using Nat.strongRecOn with
  | _ fuel ih =>
  intro cs x h
  obtain ⟨xs, n, rfl, _, hl, hxl, hf⟩ := DataW.trod_struct Try.underlying46 h
  have hl2 : cs.length = 3 := hl.trans (by kernel_rfl)
  match cs, hl2 with
  | [v0, v1, v2], _ =>
  obtain ⟨z0, e0⟩ := fld hf hxl 0 9 0 1 rfl (by kernel_rfl)
  replace e0 : DataW.trod enc Try.prog w 0 sp held n 9 [v0] = some z0 := e0
  obtain ⟨z1, e1⟩ := fld hf hxl 1 3 1 1 rfl (by kernel_rfl)
  replace e1 : DataW.trod enc Try.prog w 0 sp held n 3 [v1] = some z1 := e1
  obtain ⟨z2, e2⟩ := fld hf hxl 2 44 2 1 rfl (by kernel_rfl)
  replace e2 : DataW.trod enc Try.prog w 0 sp held n 44 [v2] = some z2 := e2
  obtain ⟨y0, a0, _, b0⟩ := DataW.trod_string Try.underlying9 e0
  obtain ⟨y1, a1, _, b1⟩ := DataW.trod_int Try.underlying3 e1
  obtain ⟨y2, a2⟩ := open_sl 2 (by decide) Try.underlying44 (by kernel_rfl) GCon.toD (fun n2 cs x hn h => openCon n2 cs x h) e2
  refine ⟨⟨y0, y1, y2⟩, ?_⟩
  unfold GData.toD
  rw [D.rd_agg]
  exact D.rdF_cons.2 ⟨[v0], [v1, v2], rfl, D.rd_str.2 ⟨a0, b0⟩, D.rdF_cons.2 ⟨[v1], [v2], rfl, D.rd_num.2 ⟨a1, b1⟩, D.rdF_cons.2 ⟨[v2], [], rfl, a2, D.rdF_nil.2 rfl⟩⟩⟩

set_option maxRecDepth 20000 in
/-- the argument itself -/
theorem argData {H : Type} {enc : TypeId × Value → H} {w : World} {r : Go.Reach} {base : Nat} {sp : Nat → Bool} {held : Bool} {v : Value} {d : DataW H} {p : List MemPlace} (hv : Value.okWide Try.prog w r base 46 v) (h : DataW.Trod enc Try.prog w 0 sp held 46 v d p) :
    ∃ (t : GData) (A1 : Option Addr) (c1 : Nat), v = .agg #[.string t.name, .int .i64 t.vars, .slice A1 t.cons.length c1] ∧ GData.At w (Lt w.heap.size) A1 c1 t := by
  obtain ⟨cs, rfl, _⟩ := okWide_struct Try.underlying46 hv
  obtain ⟨fuel, hf⟩ := h
  obtain ⟨t, ht⟩ := openData fuel _ _ hf
  obtain ⟨A1, c1, e, hat⟩ := GData.rd ht
  have e2 : cs.toList = _ := e
  refine ⟨t, A1, c1, ?_, hat⟩
  congr 1
  apply Array.toList_inj.1
  rw [e2]

set_option maxRecDepth 20000 in
/-- an argument that is a slice of them -/
theorem argDataS {H : Type} {enc : TypeId × Value → H} {w : World} {r : Go.Reach} {base : Nat} {sp : Nat → Bool} {held : Bool} {v : Value} {d : DataW H} {p : List MemPlace} (hv : Value.okWide Try.prog w r base 22 v) (h : DataW.Trod enc Try.prog w 0 sp held 22 v d p) :
    ∃ (l : List GData) (A : Option Addr) (c : Nat), v = .slice A l.length c ∧ Sl w (Lt w.heap.size) 3 A c (l.map GData.toD) := by
  obtain ⟨a, len, cap, rfl⟩ := okWide_slice Try.underlying22 hv
  obtain ⟨fuel, hf⟩ := h
  obtain ⟨l, hl⟩ := open_sl 3 (by decide) Try.underlying22 (by kernel_rfl) GData.toD (fun n2 cs x hn h => openData n2 cs x h) hf
  obtain ⟨A, c, e, hs⟩ := D.rd_sl.1 hl
  simp only [Value.cells, List.cons.injEq, List.length_map, and_true] at e
  exact ⟨l, A, c, e, hs⟩
end Go.Proofs.Ytnpkmebnmklcfaa

/- An argument of type Node, as the statement reads it, is data in memory. Conditions: none. -/
namespace Go.Proofs.Ytnpkmebnmklcfaa
open Go.ChangeShapes Go.WideShapes Go.ChangeAt Go.RowKit Go.Deep
set_option linter.unusedVariables false
set_option linter.unusedSimpArgs false

set_option maxRecDepth 20000 in
theorem openNode {H : Type} {enc : TypeId × Value → H} {w : World} {sp : Nat → Bool} {held : Bool} (fuel : Nat) : ∀ (cs : List Value) (x : DataW H × List MemPlace), DataW.trod enc Try.prog w 0 sp held fuel 49 cs = some x → ∃ t : GNode, t.toD.rd w (Lt w.heap.size) cs := by
  induction fuel using Nat.strongRecOn with
  | _ fuel ih =>
  intro cs x h
  obtain ⟨xs, n, rfl, _, hl, hxl, hf⟩ := DataW.trod_struct Try.underlying49 h
  have hl2 : cs.length = 5 := hl.trans (by kernel_rfl)
  match cs, hl2 with
  | [v0, v1, v2, v3, v4], _ =>
  obtain ⟨z0, e0⟩ := fld hf hxl 0 3 0 1 rfl (by kernel_rfl)
  replace e0 : DataW.trod enc Try.prog w 0 sp held n 3 [v0] = some z0 := e0
  obtain ⟨z1, e1⟩ := fld hf hxl 1 3 1 1 rfl (by kernel_rfl)
  replace e1 : DataW.trod enc Try.prog w 0 sp held n 3 [v1] = some z1 := e1
  obtain ⟨z2, e2⟩ := fld hf hxl 2 9 2 1 rfl (by kernel_rfl)
  replace e2 : DataW.trod enc Try.prog w 0 sp held n 9 [v2] = some z2 := e2
  obtain ⟨z3, e3⟩ := fld hf hxl 3 9 3 1 rfl (by kernel_rfl)
  replace e3 : DataW.trod enc Try.prog w 0 sp held n 9 [v3] = some z3 := e3
  obtain ⟨z4, e4⟩ := fld hf hxl 4 23 4 1 rfl (by kernel_rfl)
  replace e4 : DataW.trod enc Try.prog w 0 sp held n 23 [v4] = some z4 := e4
  obtain ⟨y0, a0, _, b0⟩ := DataW.trod_int Try.underlying3 e0
  obtain ⟨y1, a1, _, b1⟩ := DataW.trod_int Try.underlying3 e1
  obtain ⟨y2, a2, _, b2⟩ := DataW.trod_string Try.underlying9 e2
  obtain ⟨y3, a3, _, b3⟩ := DataW.trod_string Try.underlying9 e3
  obtain ⟨y4, a4⟩ := open_sl 5 (by decide) Try.underlying23 (by kernel_rfl) GNode.toD (fun n2 cs x hn h => ih n2 (by omega) cs x h) e4
  refine ⟨GNode.mk y0 y1 y2 y3 y4, ?_⟩
  simp only [GNode.toD, GNode.toDs_map]
  rw [D.rd_agg]
  exact D.rdF_cons.2 ⟨[v0], [v1, v2, v3, v4], rfl, D.rd_num.2 ⟨a0, b0⟩, D.rdF_cons.2 ⟨[v1], [v2, v3, v4], rfl, D.rd_num.2 ⟨a1, b1⟩, D.rdF_cons.2 ⟨[v2], [v3, v4], rfl, D.rd_str.2 ⟨a2, b2⟩, D.rdF_cons.2 ⟨[v3], [v4], rfl, D.rd_str.2 ⟨a3, b3⟩, D.rdF_cons.2 ⟨[v4], [], rfl, a4, D.rdF_nil.2 rfl⟩⟩⟩⟩⟩

set_option maxRecDepth 20000 in
/-- the argument itself -/
theorem argNode {H : Type} {enc : TypeId × Value → H} {w : World} {r : Go.Reach} {base : Nat} {sp : Nat → Bool} {held : Bool} {v : Value} {d : DataW H} {p : List MemPlace} (hv : Value.okWide Try.prog w r base 49 v) (h : DataW.Trod enc Try.prog w 0 sp held 49 v d p) :
    ∃ (t : GNode) (A1 : Option Addr) (c1 : Nat), v = .agg #[.int .i64 t.op, .int .i64 t.n, .string t.s, .string t.t, .slice A1 t.kids.length c1] ∧ GNode.At w (Lt w.heap.size) A1 c1 t := by
  obtain ⟨cs, rfl, _⟩ := okWide_struct Try.underlying49 hv
  obtain ⟨fuel, hf⟩ := h
  obtain ⟨t, ht⟩ := openNode fuel _ _ hf
  obtain ⟨A1, c1, e, hat⟩ := GNode.rd ht
  have e2 : cs.toList = _ := e
  refine ⟨t, A1, c1, ?_, hat⟩
  congr 1
  apply Array.toList_inj.1
  rw [e2]

set_option maxRecDepth 20000 in
/-- an argument that is a slice of them -/
theorem argNodeS {H : Type} {enc : TypeId × Value → H} {w : World} {r : Go.Reach} {base : Nat} {sp : Nat → Bool} {held : Bool} {v : Value} {d : DataW H} {p : List MemPlace} (hv : Value.okWide Try.prog w r base 23 v) (h : DataW.Trod enc Try.prog w 0 sp held 23 v d p) :
    ∃ (l : List GNode) (A : Option Addr) (c : Nat), v = .slice A l.length c ∧ Sl w (Lt w.heap.size) 5 A c (l.map GNode.toD) := by
  obtain ⟨a, len, cap, rfl⟩ := okWide_slice Try.underlying23 hv
  obtain ⟨fuel, hf⟩ := h
  obtain ⟨l, hl⟩ := open_sl 5 (by decide) Try.underlying23 (by kernel_rfl) GNode.toD (fun n2 cs x hn h => openNode n2 cs x h) hf
  obtain ⟨A, c, e, hs⟩ := D.rd_sl.1 hl
  simp only [Value.cells, List.cons.injEq, List.length_map, and_true] at e
  exact ⟨l, A, c, e, hs⟩
end Go.Proofs.Ytnpkmebnmklcfaa
