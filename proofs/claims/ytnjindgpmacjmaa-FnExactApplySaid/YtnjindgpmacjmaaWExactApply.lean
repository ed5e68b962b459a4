/- The walk of the law FnExactApply. Conditions: none. -/
import Derived.Test.YtnjindgpmacjmaaApply
import Derived.Test.YtnjindgpmacjmaaABind
import Derived.Test.YtnjindgpmacjmaaMBind
import Derived.Test.YtnjindgpmacjmaaATy
import Derived.Test.YtnjindgpmacjmaaMTy
import Derived.Deep.RegionHeld3
import Derived.Deep.RegionLaw
import Derived.Deep.CutRange
namespace Go.Proofs.Ytnjindgpmacjmaa
open Go.RowKit
set_option linter.unusedVariables false
set_option linter.unusedSimpArgs false
set_option linter.unnecessarySimpa false
set_option maxHeartbeats 4000000

set_option maxRecDepth 20000 in
theorem walkExactApply (t0 : List GBind) (A0 : Option Addr) (c0 : Nat) (t1 : GTy) (A11 : Option Addr) (c11 : Nat) (w : World) (hat0 : Sl w (Lt w.heap.size) 5 A0 c0 (t0.map GBind.toD)) (hat1 : GTy.At w (Lt w.heap.size) A11 c11 t1) :
    Calls Try.prog 11 #[.slice A0 t0.length c0, .agg #[.int .i64 t1.op, .int .i64 t1.n, .string t1.s, .slice A11 t1.kids.length c11]] w fun e w' => e = .returned (.bool true) ∧ Below w.heap.size w w' := by
  have B0 : Below w.heap.size w w := Below.refl _ _
  have at00 := Lib.hid hat0
  have at10 := Lib.hid hat1
  clear hat0
  clear hat1
  have E1 : Below (w).heap.size (w) (w.alloc (.cells #[.int .i64 t1.op, .int .i64 t1.n, .string t1.s, .slice A11 t1.kids.length c11] 59)) := (Below.refl _ _).alloc (Nat.le_refl _) _
  have B1 : Below w.heap.size w (w.alloc (.cells #[.int .i64 t1.op, .int .i64 t1.n, .string t1.s, .slice A11 t1.kids.length c11] 59)) := B0.alloc B0.size _
  have ba11 := Lib.hid (Row.new' (w) 59 #[.int .i64 t1.op, .int .i64 t1.n, .string t1.s, .slice A11 t1.kids.length c11] (g := w.heap.size) rfl)
  have at01 := Lib.hid (at00.out.below E1 E1.size)
  have at11 := Lib.hid (at10.out.below E1 E1.size)
  go_enter Try.func11, Try.ntmps11
  go_wp2_with fail
  refine (szBindS' t0 A0 c0 (1048576) _ at01.out (by omega) (by omega)).mono ?_
  rintro e w1 ⟨rfl, hb1⟩
  have B2 := B1.trans (hb1.mono B1.size)
  have ba12 := Lib.hid (ba11.out.below hb1 ba11.out.lt)
  have at02 := Lib.hid (at01.out.below hb1 hb1.size)
  have at12 := Lib.hid (at11.out.below hb1 hb1.size)
  have hcba12 := fun i => ba12.out.cell i
  by_cases hk0 : ((bulkL GBind.bulk t0 : Nat) : Int) ≤ 1048576
  rotate_left
  · have hv := szv_gt (b := bulkL GBind.bulk t0) (left := 1048576) (by omega)
    go_wp2_with fail
    go_ret
    exact ⟨rfl, B2⟩
  have hv0 := szv_le hk0
  have hge0 : 0 ≤ 1048576 - ((bulkL GBind.bulk t0 : Nat) : Int) := by omega
  have hm0 : bulkL GBind.bulk t0 ≤ 1048576 := by omega
  go_wp2_with fail
  refine (szTy' t1 A11 c11 (1048576 - ((bulkL GBind.bulk t0 : Nat) : Int)) _ (by omega) (by omega) at12.out).mono ?_
  rintro e w2 ⟨rfl, hb2⟩
  have B3 := B2.trans (hb2.mono B2.size)
  have ba13 := Lib.hid (ba12.out.below hb2 ba12.out.lt)
  have at03 := Lib.hid (at02.out.below hb2 hb2.size)
  have at13 := Lib.hid (at12.out.below hb2 hb2.size)
  have hcba13 := fun i => ba13.out.cell i
  by_cases hk1 : ((t1.bulk : Nat) : Int) ≤ 1048576 - ((bulkL GBind.bulk t0 : Nat) : Int)
  rotate_left
  · have hv := szv_gt (b := t1.bulk) (left := 1048576 - ((bulkL GBind.bulk t0 : Nat) : Int)) (by omega)
    go_wp2_with fail
    go_ret
    exact ⟨rfl, B3⟩
  have hv1 := szv_le hk1
  have hge1 : 0 ≤ 1048576 - ((bulkL GBind.bulk t0 : Nat) : Int) - ((t1.bulk : Nat) : Int) := by omega
  have hm1 : t1.bulk ≤ 1048576 := by omega
  go_wp2_with fail
  go_cut [6] from 24 to 28 (fun v wc => ∃ (g : Nat) (DOR1 : Option Addr) (dor1 : Nat), v = .pointer (some ⟨g, 0, none⟩) ∧ Row wc g 64 #[.int .i64 (t1.sub (bindOf t0)).op, .int .i64 (t1.sub (bindOf t0)).n, .string (t1.sub (bindOf t0)).s, .slice DOR1 (t1.sub (bindOf t0)).kids.length dor1] ∧ GTy.Ow wc (Btw (w2).heap.size wc.heap.size) DOR1 dor1 (t1.sub (bindOf t0)) ∧ (w2).heap.size ≤ g ∧ Below (w2).heap.size (w2) wc)
  case first =>
    have BD := Lib.hid (show Below (w2).heap.size (w2) ((w2).drew) from (Below.refl _ _).drew)
    have BA := Lib.hid (show Below (w2).heap.size (w2) (((w2).drew).alloc (.cells #[.int .i64 0, .int .i64 0, .string ⟨#[]⟩, .slice none 0 0] 64)) from BD.out.alloc (Nat.le_refl _) _)
    have ATd0 := Lib.hid (at03.out.below BD.out BD.out.size)
    have ATa0 := Lib.hid (at03.out.below BA.out BA.out.size)
    have ATd1 := Lib.hid (at13.out.below BD.out BD.out.size)
    have ATa1 := Lib.hid (at13.out.below BA.out BA.out.size)
    have hlba1 := ba13.out.lt
    have RN0 := Lib.hid (Row.new' ((w2).drew) 64 #[.int .i64 0, .int .i64 0, .string ⟨#[]⟩, .slice none 0 0] (g := w2.heap.size) rfl)
    go_region_law (first
      | (go_simp
         go_at_call 56
         refine (toBindS' t0 A0 c0 _ (by first | exact ATd0.out | exact ATa0.out) hm0).mono ?_
         rintro e wq0 ⟨D01, d01, rfl, owd0, hbq0⟩
         have BQ0 := Lib.hid (show Below (w2).heap.size (w2) wq0 from by first | exact BD.out.trans (hbq0.mono BD.out.size) | exact BA.out.trans (hbq0.mono BA.out.size))
         have hcq0ba1 := fun i => (ba13.out.below BQ0.out ba13.out.lt).cell i
         have hlq0ba1 := (ba13.out.below BQ0.out ba13.out.lt).lt
         have ATx1_0 := Lib.hid (at13.out.below BQ0.out BQ0.out.size)
         have ATy1_0 := Lib.hid (at13.out.below (BQ0.out.alloc BQ0.out.size (.cells #[.int .i64 0, .int .i64 0, .string ⟨#[]⟩, .slice none 0 0] 64)) (BQ0.out.alloc BQ0.out.size (.cells #[.int .i64 0, .int .i64 0, .string ⟨#[]⟩, .slice none 0 0] 64)).size)
         have DF0_0 := Lib.hid (owd0.slLt)
         have DG0_0 := Lib.hid (DF0_0.out.below (show Below wq0.heap.size wq0 (wq0.alloc (.cells #[.int .i64 0, .int .i64 0, .string ⟨#[]⟩, .slice none 0 0] 64)) from (Below.refl _ _).alloc (Nat.le_refl _) _) (show wq0.heap.size ≤ (wq0.alloc (.cells #[.int .i64 0, .int .i64 0, .string ⟨#[]⟩, .slice none 0 0] 64)).heap.size from by simp))
         have RN1 := Lib.hid (Row.new wq0 64 #[.int .i64 0, .int .i64 0, .string ⟨#[]⟩, .slice none 0 0]))
      | (go_simp
         go_at_call 41
         refine (toTy' t1 A11 c11 _ hm1 (by first | exact ATx1_0.out | exact ATy1_0.out)).mono ?_
         rintro e wq1 ⟨D11, d11, rfl, owd1, hbq1⟩
         have BQ1 := Lib.hid (show Below (w2).heap.size (w2) wq1 from by first | exact BQ0.out.trans (hbq1.mono BQ0.out.size) | exact (BQ0.out.alloc BQ0.out.size _).trans (hbq1.mono (BQ0.out.alloc BQ0.out.size _).size))
         have hcq1ba1 := fun i => (ba13.out.below BQ1.out ba13.out.lt).cell i
         have hlq1ba1 := (ba13.out.below BQ1.out ba13.out.lt).lt
         have DF0_1 : Hid (Sl wq1 (Lt wq1.heap.size) 5 D01 d01 (t0.map GBind.toD)) := Lib.hid (by first | exact DF0_0.out.below hbq1 hbq1.size | exact DG0_0.out.below hbq1 hbq1.size)
         have DG0_1 := Lib.hid (DF0_1.out.below (show Below wq1.heap.size wq1 (wq1.alloc (.cells #[.int .i64 0, .int .i64 0, .string ⟨#[]⟩, .slice none 0 0] 64)) from (Below.refl _ _).alloc (Nat.le_refl _) _) (show wq1.heap.size ≤ (wq1.alloc (.cells #[.int .i64 0, .int .i64 0, .string ⟨#[]⟩, .slice none 0 0] 64)).heap.size from by simp))
         have DF1_1 := Lib.hid (owd1.at.keep fun b hb => ⟨hb.2, rfl⟩)
         have DG1_1 := Lib.hid (DF1_1.out.below (show Below wq1.heap.size wq1 (wq1.alloc (.cells #[.int .i64 0, .int .i64 0, .string ⟨#[]⟩, .slice none 0 0] 64)) from (Below.refl _ _).alloc (Nat.le_refl _) _) (show wq1.heap.size ≤ (wq1.alloc (.cells #[.int .i64 0, .int .i64 0, .string ⟨#[]⟩, .slice none 0 0] 64)).heap.size from by simp))
         have RN2 := Lib.hid (Row.new wq1 64 #[.int .i64 0, .int .i64 0, .string ⟨#[]⟩, .slice none 0 0]))
      | (go_simp
         go_at_call 55
         refine (specApply (t1.bulk + 1) t0 D01 d01 t1 D11 d11 _ (by omega) hm1 hm0 (by first | exact DF0_1.out | exact DG0_1.out) (by first | exact DF1_1.out | exact DG1_1.out)).mono ?_
         rintro e wr ⟨DOR1, dor1, rfl, how, hbr⟩
         have BR := Lib.hid (show Below (w2).heap.size (w2) wr from by first | exact BQ1.out.trans (hbr.mono BQ1.out.size) | exact (BQ1.out.alloc BQ1.out.size _).trans (hbr.mono (BQ1.out.alloc BQ1.out.size _).size))
         first | (have RB := Lib.hid ((((((RN0.out).below hbq0 (RN0.out).lt)).below hbq1 (((RN0.out).below hbq0 (RN0.out).lt)).lt)).below hbr (((((RN0.out).below hbq0 (RN0.out).lt)).below hbq1 (((RN0.out).below hbq0 (RN0.out).lt)).lt)).lt); have hzc := fun i => RB.out.cell i; have hzf := fun i => RB.out.frozen i; have markp0 := trivial) | (have RB := Lib.hid ((((RN1.out).below hbq1 (RN1.out).lt)).below hbr (((RN1.out).below hbq1 (RN1.out).lt)).lt); have hzc := fun i => RB.out.cell i; have hzf := fun i => RB.out.frozen i; have markp1 := trivial) | (have RB := Lib.hid ((RN2.out).below hbr (RN2.out).lt); have hzc := fun i => RB.out.cell i; have hzf := fun i => RB.out.frozen i; have markp2 := trivial) | skip))
    all_goals
      go_wp2_with fail
      go_meet
      first
        | (have _m := markp0; exact ⟨w2.heap.size, _, _, rfl, (((((((((((((RN0.out).below hbq0 (RN0.out).lt)).below hbq1 (((RN0.out).below hbq0 (RN0.out).lt)).lt)).below hbr (((((RN0.out).below hbq0 (RN0.out).lt)).below hbq1 (((RN0.out).below hbq0 (RN0.out).lt)).lt)).lt)).set 0 _)).set 1 _)).set 2 _)).set 3 _, how.keep (S' := Btw (w2).heap.size (setCells wr (w2.heap.size) 0 [.int .i64 (t1.sub (bindOf t0)).op, .int .i64 (t1.sub (bindOf t0)).n, .string (t1.sub (bindOf t0)).s, .slice DOR1 (t1.sub (bindOf t0)).kids.length dor1]).heap.size) (w' := setCells wr (w2.heap.size) 0 [.int .i64 (t1.sub (bindOf t0)).op, .int .i64 (t1.sub (bindOf t0)).n, .string (t1.sub (bindOf t0)).s, .slice DOR1 (t1.sub (bindOf t0)).kids.length dor1]) (fun x hx => ⟨⟨Nat.le_trans (show (w2).heap.size ≤ _ from by first | exact BQ1.out.size | exact (BQ1.out.alloc BQ1.out.size _).size) hx.1, by rw [setCells_size]; exact hx.2⟩, setCells_block _ _ _ _ x (fun e => by subst e; exact absurd hx.1 (Nat.not_le.2 (((((RN0.out).below hbq0 (RN0.out).lt)).below hbq1 (((RN0.out).below hbq0 (RN0.out).lt)).lt)).lt))⟩), (Nat.le_refl _), setCells_below BR.out w2.heap.size 0 (Nat.le_refl _) [.int .i64 (t1.sub (bindOf t0)).op, .int .i64 (t1.sub (bindOf t0)).n, .string (t1.sub (bindOf t0)).s, .slice DOR1 (t1.sub (bindOf t0)).kids.length dor1]⟩)
        | (have _m := markp1; exact ⟨wq0.heap.size, _, _, rfl, (((((((((((RN1.out).below hbq1 (RN1.out).lt)).below hbr (((RN1.out).below hbq1 (RN1.out).lt)).lt)).set 0 _)).set 1 _)).set 2 _)).set 3 _, how.keep (S' := Btw (w2).heap.size (setCells wr (wq0.heap.size) 0 [.int .i64 (t1.sub (bindOf t0)).op, .int .i64 (t1.sub (bindOf t0)).n, .string (t1.sub (bindOf t0)).s, .slice DOR1 (t1.sub (bindOf t0)).kids.length dor1]).heap.size) (w' := setCells wr (wq0.heap.size) 0 [.int .i64 (t1.sub (bindOf t0)).op, .int .i64 (t1.sub (bindOf t0)).n, .string (t1.sub (bindOf t0)).s, .slice DOR1 (t1.sub (bindOf t0)).kids.length dor1]) (fun x hx => ⟨⟨Nat.le_trans (show (w2).heap.size ≤ _ from by first | exact BQ1.out.size | exact (BQ1.out.alloc BQ1.out.size _).size) hx.1, by rw [setCells_size]; exact hx.2⟩, setCells_block _ _ _ _ x (fun e => by subst e; exact absurd hx.1 (Nat.not_le.2 (((RN1.out).below hbq1 (RN1.out).lt)).lt))⟩), BQ0.out.size, setCells_below BR.out wq0.heap.size 0 BQ0.out.size [.int .i64 (t1.sub (bindOf t0)).op, .int .i64 (t1.sub (bindOf t0)).n, .string (t1.sub (bindOf t0)).s, .slice DOR1 (t1.sub (bindOf t0)).kids.length dor1]⟩)
        | (have _m := markp2; exact ⟨wq1.heap.size, _, _, rfl, (((((((((RN2.out).below hbr (RN2.out).lt)).set 0 _)).set 1 _)).set 2 _)).set 3 _, how.keep (S' := Btw (w2).heap.size (setCells wr (wq1.heap.size) 0 [.int .i64 (t1.sub (bindOf t0)).op, .int .i64 (t1.sub (bindOf t0)).n, .string (t1.sub (bindOf t0)).s, .slice DOR1 (t1.sub (bindOf t0)).kids.length dor1]).heap.size) (w' := setCells wr (wq1.heap.size) 0 [.int .i64 (t1.sub (bindOf t0)).op, .int .i64 (t1.sub (bindOf t0)).n, .string (t1.sub (bindOf t0)).s, .slice DOR1 (t1.sub (bindOf t0)).kids.length dor1]) (fun x hx => ⟨⟨Nat.le_trans (show (w2).heap.size ≤ _ from by first | exact BQ1.out.size | exact (BQ1.out.alloc BQ1.out.size _).size) hx.1, by rw [setCells_size]; exact hx.2⟩, setCells_block _ _ _ _ x (fun e => by subst e; exact absurd hx.1 (Nat.not_le.2 (by simp)))⟩), BQ1.out.size, setCells_below BR.out wq1.heap.size 0 BQ1.out.size [.int .i64 (t1.sub (bindOf t0)).op, .int .i64 (t1.sub (bindOf t0)).n, .string (t1.sub (bindOf t0)).s, .slice DOR1 (t1.sub (bindOf t0)).kids.length dor1]⟩)
        | exact ⟨wr.heap.size, _, _, rfl, Row.new _ _ _, how.keep (fun x hx => ⟨⟨Nat.le_trans (show (w2).heap.size ≤ _ from by first | exact BQ1.out.size | exact (BQ1.out.alloc BQ1.out.size _).size) hx.1, Nat.lt_of_lt_of_le hx.2 (by simp)⟩, Below.heap_alloc _ _ _ hx.2⟩), BR.out.size, BR.out.alloc BR.out.size _⟩
        | (trace_state; sorry)
  case rest =>
  obtain ⟨gW, DOR1, dor1, rfl, hrowW, howW, hgeW, hb3⟩ := hcut
  obtain ⟨wcW, ewc⟩ : ∃ x, x = wc := ⟨_, rfl⟩
  subst ewc
  have B4 := B3.trans (hb3.mono B3.size)
  have ba14 := Lib.hid (ba13.out.below hb3 ba13.out.lt)
  have at04 := Lib.hid (at03.out.below hb3 hb3.size)
  have at14 := Lib.hid (at13.out.below hb3 hb3.size)
  have Xba1_W := Lib.hid (show w.heap.size < (w2).heap.size from ba13.out.lt)
  have WW := Lib.hid (show w.heap.size ≤ (w2).heap.size from B3.size)
  have OW4 := Lib.hid howW
  have LW4 := Lib.hid (show wcW.heap.size ≤ wcW.heap.size from Nat.le_refl _)
  have bw4 := Lib.hid hrowW
  clear hrowW howW
  have hcba14 := fun i => ba14.out.cell i
  have hcbw4 := fun i => bw4.out.cell i
  go_wp2_with fail
  refine (toBindS' t0 A0 c0 _ at04.out hm0).mono ?_
  rintro e w4 ⟨X01, x01, rfl, owx0, hb4⟩
  have B5 := B4.trans (hb4.mono B4.size)
  have OW5 := Lib.hid (OW4.out.keep (S' := Btw ((w2).heap.size) (wcW.heap.size)) (w' := w4) fun b hb => ⟨hb, hb4.block b (Nat.lt_of_lt_of_le hb.2 LW4.out)⟩)
  have LW5 := Lib.hid (show wcW.heap.size ≤ (w4).heap.size from Nat.le_trans LW4.out hb4.size)
  have ba15 := Lib.hid (ba14.out.below hb4 ba14.out.lt)
  have bw5 := Lib.hid (bw4.out.below hb4 bw4.out.lt)
  have at05 := Lib.hid (at04.out.below hb4 hb4.size)
  have at15 := Lib.hid (at14.out.below hb4 hb4.size)
  have ZW_x0 := Lib.hid (show wcW.heap.size ≤ (wcW).heap.size from LW4.out)
  have Xba1_x0 := Lib.hid (show w.heap.size < (wcW).heap.size from ba14.out.lt)
  have Xbw_x0 := Lib.hid (show gW < (wcW).heap.size from bw4.out.lt)
  have Wx0 := Lib.hid (show w.heap.size ≤ (wcW).heap.size from B4.size)
  have Ox05 := Lib.hid (owx0)
  have Lx05 := Lib.hid (show w4.heap.size ≤ (w4).heap.size from Nat.le_refl _)
  have hcba15 := fun i => ba15.out.cell i
  have hcbw5 := fun i => bw5.out.cell i
  go_wp2_with fail
  refine (toTy' t1 A11 c11 _ hm1 at15.out).mono ?_
  rintro e w5 ⟨X11, x11, rfl, owx1, hb5⟩
  have B6 := B5.trans (hb5.mono B5.size)
  have OW6 := Lib.hid (OW5.out.keep (S' := Btw ((w2).heap.size) (wcW.heap.size)) (w' := w5) fun b hb => ⟨hb, hb5.block b (Nat.lt_of_lt_of_le hb.2 LW5.out)⟩)
  have LW6 := Lib.hid (show wcW.heap.size ≤ (w5).heap.size from Nat.le_trans LW5.out hb5.size)
  have Ox06 := Lib.hid (Ox05.out.keep (S' := Btw ((wcW).heap.size) (w4.heap.size)) (w' := w5) fun b hb => ⟨hb, hb5.block b (Nat.lt_of_lt_of_le hb.2 Lx05.out)⟩)
  have Lx06 := Lib.hid (show w4.heap.size ≤ (w5).heap.size from Nat.le_trans Lx05.out hb5.size)
  have ba16 := Lib.hid (ba15.out.below hb5 ba15.out.lt)
  have bw6 := Lib.hid (bw5.out.below hb5 bw5.out.lt)
  have at06 := Lib.hid (at05.out.below hb5 hb5.size)
  have at16 := Lib.hid (at15.out.below hb5 hb5.size)
  have ZW_x1 := Lib.hid (show wcW.heap.size ≤ (w4).heap.size from LW5.out)
  have Zx0_x1 := Lib.hid (show w4.heap.size ≤ (w4).heap.size from Lx05.out)
  have Xba1_x1 := Lib.hid (show w.heap.size < (w4).heap.size from ba15.out.lt)
  have Xbw_x1 := Lib.hid (show gW < (w4).heap.size from bw5.out.lt)
  have Wx1 := Lib.hid (show w.heap.size ≤ (w4).heap.size from B5.size)
  have Ox16 := Lib.hid (owx1)
  have Lx16 := Lib.hid (show w5.heap.size ≤ (w5).heap.size from Nat.le_refl _)
  have hcba16 := fun i => ba16.out.cell i
  have hcbw6 := fun i => bw6.out.cell i
  have E7 : Below (w5).heap.size (w5) (w5.alloc (.cells #[.int .i64 t1.op, .int .i64 t1.n, .string t1.s, .slice X11 t1.kids.length x11] 64)) := (Below.refl _ _).alloc (Nat.le_refl _) _
  have B7 : Below w.heap.size w (w5.alloc (.cells #[.int .i64 t1.op, .int .i64 t1.n, .string t1.s, .slice X11 t1.kids.length x11] 64)) := B6.alloc B6.size _
  have ba17 := Lib.hid (Row.alloc ba16.out (.cells #[.int .i64 t1.op, .int .i64 t1.n, .string t1.s, .slice X11 t1.kids.length x11] 64))
  have bw7 := Lib.hid (Row.alloc bw6.out (.cells #[.int .i64 t1.op, .int .i64 t1.n, .string t1.s, .slice X11 t1.kids.length x11] 64))
  have bx17 := Lib.hid (Row.new' (w5) 64 #[.int .i64 t1.op, .int .i64 t1.n, .string t1.s, .slice X11 t1.kids.length x11] (g := w5.heap.size) rfl)
  have at07 := Lib.hid (at06.out.below E7 E7.size)
  have at17 := Lib.hid (at16.out.below E7 E7.size)
  have OW7 := Lib.hid (OW6.out.keep (S' := Btw ((w2).heap.size) (wcW.heap.size)) (w' := w5.alloc (.cells #[.int .i64 t1.op, .int .i64 t1.n, .string t1.s, .slice X11 t1.kids.length x11] 64)) fun b hb => ⟨hb, Below.heap_alloc _ _ _ (Nat.lt_of_lt_of_le hb.2 LW6.out)⟩)
  have LW7 := Lib.hid (show wcW.heap.size ≤ (w5.alloc (.cells #[.int .i64 t1.op, .int .i64 t1.n, .string t1.s, .slice X11 t1.kids.length x11] 64)).heap.size from Nat.le_trans LW6.out E7.size)
  have Ox07 := Lib.hid (Ox06.out.keep (S' := Btw ((wcW).heap.size) (w4.heap.size)) (w' := w5.alloc (.cells #[.int .i64 t1.op, .int .i64 t1.n, .string t1.s, .slice X11 t1.kids.length x11] 64)) fun b hb => ⟨hb, Below.heap_alloc _ _ _ (Nat.lt_of_lt_of_le hb.2 Lx06.out)⟩)
  have Lx07 := Lib.hid (show w4.heap.size ≤ (w5.alloc (.cells #[.int .i64 t1.op, .int .i64 t1.n, .string t1.s, .slice X11 t1.kids.length x11] 64)).heap.size from Nat.le_trans Lx06.out E7.size)
  have Ox17 := Lib.hid (Ox16.out.keep (S' := Btw ((w4).heap.size) (w5.heap.size)) (w' := w5.alloc (.cells #[.int .i64 t1.op, .int .i64 t1.n, .string t1.s, .slice X11 t1.kids.length x11] 64)) fun b hb => ⟨hb, Below.heap_alloc _ _ _ (Nat.lt_of_lt_of_le hb.2 Lx16.out)⟩)
  have Lx17 := Lib.hid (show w5.heap.size ≤ (w5.alloc (.cells #[.int .i64 t1.op, .int .i64 t1.n, .string t1.s, .slice X11 t1.kids.length x11] 64)).heap.size from Nat.le_trans Lx16.out E7.size)
  have YW_bx1 := Lib.hid (show wcW.heap.size ≤ w5.heap.size from by have := LW6.out; simpa using this)
  have Yx0_bx1 := Lib.hid (show w4.heap.size ≤ w5.heap.size from by have := Lx06.out; simpa using this)
  have Yx1_bx1 := Lib.hid (show w5.heap.size ≤ w5.heap.size from by have := Lx16.out; simpa using this)
  have hcba17 := fun i => ba17.out.cell i
  have hcbw7 := fun i => bw7.out.cell i
  have hcbx17 := fun i => bx17.out.cell i
  go_wp2_with fail
  refine (implApply (t1.bulk + 1) t0 X01 x01 t1 X11 x11 _ (by omega) hm1 hm0 (Ox07.out.sl.keep fun b hb => ⟨Nat.lt_of_lt_of_le hb.2 Lx07.out, rfl⟩) (Ox17.out.at.keep fun b hb => ⟨Nat.lt_of_lt_of_le hb.2 Lx17.out, rfl⟩)).mono ?_
  rintro e w6 ⟨GR1, gr1, rfl, owgR, hb6⟩
  have B8 := B7.trans (hb6.mono B7.size)
  have OW8 := Lib.hid (OW7.out.keep (S' := Btw ((w2).heap.size) (wcW.heap.size)) (w' := w6) fun b hb => ⟨hb, hb6.block b (Nat.lt_of_lt_of_le hb.2 LW7.out)⟩)
  have LW8 := Lib.hid (show wcW.heap.size ≤ (w6).heap.size from Nat.le_trans LW7.out hb6.size)
  have Ox08 := Lib.hid (Ox07.out.keep (S' := Btw ((wcW).heap.size) (w4.heap.size)) (w' := w6) fun b hb => ⟨hb, hb6.block b (Nat.lt_of_lt_of_le hb.2 Lx07.out)⟩)
  have Lx08 := Lib.hid (show w4.heap.size ≤ (w6).heap.size from Nat.le_trans Lx07.out hb6.size)
  have Ox18 := Lib.hid (Ox17.out.keep (S' := Btw ((w4).heap.size) (w5.heap.size)) (w' := w6) fun b hb => ⟨hb, hb6.block b (Nat.lt_of_lt_of_le hb.2 Lx17.out)⟩)
  have Lx18 := Lib.hid (show w5.heap.size ≤ (w6).heap.size from Nat.le_trans Lx17.out hb6.size)
  have ba18 := Lib.hid (ba17.out.below hb6 ba17.out.lt)
  have bw8 := Lib.hid (bw7.out.below hb6 bw7.out.lt)
  have bx18 := Lib.hid (bx17.out.below hb6 bx17.out.lt)
  have at08 := Lib.hid (at07.out.below hb6 hb6.size)
  have at18 := Lib.hid (at17.out.below hb6 hb6.size)
  have ZW_G := Lib.hid (show wcW.heap.size ≤ (w5.alloc (.cells #[.int .i64 t1.op, .int .i64 t1.n, .string t1.s, .slice X11 t1.kids.length x11] 64)).heap.size from LW7.out)
  have Zx0_G := Lib.hid (show w4.heap.size ≤ (w5.alloc (.cells #[.int .i64 t1.op, .int .i64 t1.n, .string t1.s, .slice X11 t1.kids.length x11] 64)).heap.size from Lx07.out)
  have Zx1_G := Lib.hid (show w5.heap.size ≤ (w5.alloc (.cells #[.int .i64 t1.op, .int .i64 t1.n, .string t1.s, .slice X11 t1.kids.length x11] 64)).heap.size from Lx17.out)
  have Xba1_G := Lib.hid (show w.heap.size < (w5.alloc (.cells #[.int .i64 t1.op, .int .i64 t1.n, .string t1.s, .slice X11 t1.kids.length x11] 64)).heap.size from ba17.out.lt)
  have Xbw_G := Lib.hid (show gW < (w5.alloc (.cells #[.int .i64 t1.op, .int .i64 t1.n, .string t1.s, .slice X11 t1.kids.length x11] 64)).heap.size from bw7.out.lt)
  have Xbx1_G := Lib.hid (show w5.heap.size < (w5.alloc (.cells #[.int .i64 t1.op, .int .i64 t1.n, .string t1.s, .slice X11 t1.kids.length x11] 64)).heap.size from bx17.out.lt)
  have WG := Lib.hid (show w.heap.size ≤ (w5.alloc (.cells #[.int .i64 t1.op, .int .i64 t1.n, .string t1.s, .slice X11 t1.kids.length x11] 64)).heap.size from B7.size)
  have OG8 := Lib.hid (owgR)
  have LG8 := Lib.hid (show w6.heap.size ≤ (w6).heap.size from Nat.le_refl _)
  have hcba18 := fun i => ba18.out.cell i
  have hcbw8 := fun i => bw8.out.cell i
  have hcbx18 := fun i => bx18.out.cell i
  have E9 : Below (w6).heap.size (w6) (w6.alloc (.cells #[.int .i64 (t1.sub (bindOf t0)).op, .int .i64 (t1.sub (bindOf t0)).n, .string (t1.sub (bindOf t0)).s, .slice GR1 (t1.sub (bindOf t0)).kids.length gr1] 64)) := (Below.refl _ _).alloc (Nat.le_refl _) _
  have B9 : Below w.heap.size w (w6.alloc (.cells #[.int .i64 (t1.sub (bindOf t0)).op, .int .i64 (t1.sub (bindOf t0)).n, .string (t1.sub (bindOf t0)).s, .slice GR1 (t1.sub (bindOf t0)).kids.length gr1] 64)) := B8.alloc B8.size _
  have ba19 := Lib.hid (Row.alloc ba18.out (.cells #[.int .i64 (t1.sub (bindOf t0)).op, .int .i64 (t1.sub (bindOf t0)).n, .string (t1.sub (bindOf t0)).s, .slice GR1 (t1.sub (bindOf t0)).kids.length gr1] 64))
  have bw9 := Lib.hid (Row.alloc bw8.out (.cells #[.int .i64 (t1.sub (bindOf t0)).op, .int .i64 (t1.sub (bindOf t0)).n, .string (t1.sub (bindOf t0)).s, .slice GR1 (t1.sub (bindOf t0)).kids.length gr1] 64))
  have bx19 := Lib.hid (Row.alloc bx18.out (.cells #[.int .i64 (t1.sub (bindOf t0)).op, .int .i64 (t1.sub (bindOf t0)).n, .string (t1.sub (bindOf t0)).s, .slice GR1 (t1.sub (bindOf t0)).kids.length gr1] 64))
  have bg9 := Lib.hid (Row.new' (w6) 64 #[.int .i64 (t1.sub (bindOf t0)).op, .int .i64 (t1.sub (bindOf t0)).n, .string (t1.sub (bindOf t0)).s, .slice GR1 (t1.sub (bindOf t0)).kids.length gr1] (g := w6.heap.size) rfl)
  have at09 := Lib.hid (at08.out.below E9 E9.size)
  have at19 := Lib.hid (at18.out.below E9 E9.size)
  have OW9 := Lib.hid (OW8.out.keep (S' := Btw ((w2).heap.size) (wcW.heap.size)) (w' := w6.alloc (.cells #[.int .i64 (t1.sub (bindOf t0)).op, .int .i64 (t1.sub (bindOf t0)).n, .string (t1.sub (bindOf t0)).s, .slice GR1 (t1.sub (bindOf t0)).kids.length gr1] 64)) fun b hb => ⟨hb, Below.heap_alloc _ _ _ (Nat.lt_of_lt_of_le hb.2 LW8.out)⟩)
  have LW9 := Lib.hid (show wcW.heap.size ≤ (w6.alloc (.cells #[.int .i64 (t1.sub (bindOf t0)).op, .int .i64 (t1.sub (bindOf t0)).n, .string (t1.sub (bindOf t0)).s, .slice GR1 (t1.sub (bindOf t0)).kids.length gr1] 64)).heap.size from Nat.le_trans LW8.out E9.size)
  have Ox09 := Lib.hid (Ox08.out.keep (S' := Btw ((wcW).heap.size) (w4.heap.size)) (w' := w6.alloc (.cells #[.int .i64 (t1.sub (bindOf t0)).op, .int .i64 (t1.sub (bindOf t0)).n, .string (t1.sub (bindOf t0)).s, .slice GR1 (t1.sub (bindOf t0)).kids.length gr1] 64)) fun b hb => ⟨hb, Below.heap_alloc _ _ _ (Nat.lt_of_lt_of_le hb.2 Lx08.out)⟩)
  have Lx09 := Lib.hid (show w4.heap.size ≤ (w6.alloc (.cells #[.int .i64 (t1.sub (bindOf t0)).op, .int .i64 (t1.sub (bindOf t0)).n, .string (t1.sub (bindOf t0)).s, .slice GR1 (t1.sub (bindOf t0)).kids.length gr1] 64)).heap.size from Nat.le_trans Lx08.out E9.size)
  have Ox19 := Lib.hid (Ox18.out.keep (S' := Btw ((w4).heap.size) (w5.heap.size)) (w' := w6.alloc (.cells #[.int .i64 (t1.sub (bindOf t0)).op, .int .i64 (t1.sub (bindOf t0)).n, .string (t1.sub (bindOf t0)).s, .slice GR1 (t1.sub (bindOf t0)).kids.length gr1] 64)) fun b hb => ⟨hb, Below.heap_alloc _ _ _ (Nat.lt_of_lt_of_le hb.2 Lx18.out)⟩)
  have Lx19 := Lib.hid (show w5.heap.size ≤ (w6.alloc (.cells #[.int .i64 (t1.sub (bindOf t0)).op, .int .i64 (t1.sub (bindOf t0)).n, .string (t1.sub (bindOf t0)).s, .slice GR1 (t1.sub (bindOf t0)).kids.length gr1] 64)).heap.size from Nat.le_trans Lx18.out E9.size)
  have OG9 := Lib.hid (OG8.out.keep (S' := Btw ((w5.alloc (.cells #[.int .i64 t1.op, .int .i64 t1.n, .string t1.s, .slice X11 t1.kids.length x11] 64)).heap.size) (w6.heap.size)) (w' := w6.alloc (.cells #[.int .i64 (t1.sub (bindOf t0)).op, .int .i64 (t1.sub (bindOf t0)).n, .string (t1.sub (bindOf t0)).s, .slice GR1 (t1.sub (bindOf t0)).kids.length gr1] 64)) fun b hb => ⟨hb, Below.heap_alloc _ _ _ (Nat.lt_of_lt_of_le hb.2 LG8.out)⟩)
  have LG9 := Lib.hid (show w6.heap.size ≤ (w6.alloc (.cells #[.int .i64 (t1.sub (bindOf t0)).op, .int .i64 (t1.sub (bindOf t0)).n, .string (t1.sub (bindOf t0)).s, .slice GR1 (t1.sub (bindOf t0)).kids.length gr1] 64)).heap.size from Nat.le_trans LG8.out E9.size)
  have YW_bg := Lib.hid (show wcW.heap.size ≤ w6.heap.size from by have := LW8.out; simpa using this)
  have Yx0_bg := Lib.hid (show w4.heap.size ≤ w6.heap.size from by have := Lx08.out; simpa using this)
  have Yx1_bg := Lib.hid (show w5.heap.size ≤ w6.heap.size from by have := Lx18.out; simpa using this)
  have YG_bg := Lib.hid (show w6.heap.size ≤ w6.heap.size from by have := LG8.out; simpa using this)
  have hcba19 := fun i => ba19.out.cell i
  have hcbw9 := fun i => bw9.out.cell i
  have hcbx19 := fun i => bx19.out.cell i
  have hcbg9 := fun i => bg9.out.cell i
  go_wp2_with fail
  refine (eqTy' (t1.sub (bindOf t0)) GR1 gr1 DOR1 dor1 _ (OG9.out.at.keep fun b hb => ⟨Nat.lt_of_lt_of_le hb.2 LG9.out, rfl⟩) (OW9.out.at.keep fun b hb => ⟨Nat.lt_of_lt_of_le hb.2 LW9.out, rfl⟩)).mono ?_
  rintro e w7 ⟨rfl, hb7⟩
  have B10 := B9.trans (hb7.mono B9.size)
  have OW10 := Lib.hid (OW9.out.keep (S' := Btw ((w2).heap.size) (wcW.heap.size)) (w' := w7) fun b hb => ⟨hb, hb7.block b (Nat.lt_of_lt_of_le hb.2 LW9.out)⟩)
  have LW10 := Lib.hid (show wcW.heap.size ≤ (w7).heap.size from Nat.le_trans LW9.out hb7.size)
  have Ox010 := Lib.hid (Ox09.out.keep (S' := Btw ((wcW).heap.size) (w4.heap.size)) (w' := w7) fun b hb => ⟨hb, hb7.block b (Nat.lt_of_lt_of_le hb.2 Lx09.out)⟩)
  have Lx010 := Lib.hid (show w4.heap.size ≤ (w7).heap.size from Nat.le_trans Lx09.out hb7.size)
  have Ox110 := Lib.hid (Ox19.out.keep (S' := Btw ((w4).heap.size) (w5.heap.size)) (w' := w7) fun b hb => ⟨hb, hb7.block b (Nat.lt_of_lt_of_le hb.2 Lx19.out)⟩)
  have Lx110 := Lib.hid (show w5.heap.size ≤ (w7).heap.size from Nat.le_trans Lx19.out hb7.size)
  have OG10 := Lib.hid (OG9.out.keep (S' := Btw ((w5.alloc (.cells #[.int .i64 t1.op, .int .i64 t1.n, .string t1.s, .slice X11 t1.kids.length x11] 64)).heap.size) (w6.heap.size)) (w' := w7) fun b hb => ⟨hb, hb7.block b (Nat.lt_of_lt_of_le hb.2 LG9.out)⟩)
  have LG10 := Lib.hid (show w6.heap.size ≤ (w7).heap.size from Nat.le_trans LG9.out hb7.size)
  have ba110 := Lib.hid (ba19.out.below hb7 ba19.out.lt)
  have bw10 := Lib.hid (bw9.out.below hb7 bw9.out.lt)
  have bx110 := Lib.hid (bx19.out.below hb7 bx19.out.lt)
  have bg10 := Lib.hid (bg9.out.below hb7 bg9.out.lt)
  have at010 := Lib.hid (at09.out.below hb7 hb7.size)
  have at110 := Lib.hid (at19.out.below hb7 hb7.size)
  have hcba110 := fun i => ba110.out.cell i
  have hcbw10 := fun i => bw10.out.cell i
  have hcbx110 := fun i => bx110.out.cell i
  have hcbg10 := fun i => bg10.out.cell i
  go_wp2_with fail
  refine (toBindS' t0 A0 c0 _ at010.out hm0).mono ?_
  rintro e w8 ⟨Y01, y01, rfl, owy0, hb8⟩
  have B11 := B10.trans (hb8.mono B10.size)
  have OW11 := Lib.hid (OW10.out.keep (S' := Btw ((w2).heap.size) (wcW.heap.size)) (w' := w8) fun b hb => ⟨hb, hb8.block b (Nat.lt_of_lt_of_le hb.2 LW10.out)⟩)
  have LW11 := Lib.hid (show wcW.heap.size ≤ (w8).heap.size from Nat.le_trans LW10.out hb8.size)
  have Ox011 := Lib.hid (Ox010.out.keep (S' := Btw ((wcW).heap.size) (w4.heap.size)) (w' := w8) fun b hb => ⟨hb, hb8.block b (Nat.lt_of_lt_of_le hb.2 Lx010.out)⟩)
  have Lx011 := Lib.hid (show w4.heap.size ≤ (w8).heap.size from Nat.le_trans Lx010.out hb8.size)
  have Ox111 := Lib.hid (Ox110.out.keep (S' := Btw ((w4).heap.size) (w5.heap.size)) (w' := w8) fun b hb => ⟨hb, hb8.block b (Nat.lt_of_lt_of_le hb.2 Lx110.out)⟩)
  have Lx111 := Lib.hid (show w5.heap.size ≤ (w8).heap.size from Nat.le_trans Lx110.out hb8.size)
  have OG11 := Lib.hid (OG10.out.keep (S' := Btw ((w5.alloc (.cells #[.int .i64 t1.op, .int .i64 t1.n, .string t1.s, .slice X11 t1.kids.length x11] 64)).heap.size) (w6.heap.size)) (w' := w8) fun b hb => ⟨hb, hb8.block b (Nat.lt_of_lt_of_le hb.2 LG10.out)⟩)
  have LG11 := Lib.hid (show w6.heap.size ≤ (w8).heap.size from Nat.le_trans LG10.out hb8.size)
  have ba111 := Lib.hid (ba110.out.below hb8 ba110.out.lt)
  have bw11 := Lib.hid (bw10.out.below hb8 bw10.out.lt)
  have bx111 := Lib.hid (bx110.out.below hb8 bx110.out.lt)
  have bg11 := Lib.hid (bg10.out.below hb8 bg10.out.lt)
  have at011 := Lib.hid (at010.out.below hb8 hb8.size)
  have at111 := Lib.hid (at110.out.below hb8 hb8.size)
  have yf011 := Lib.hid (owy0.slLt)
  have hcba111 := fun i => ba111.out.cell i
  have hcbw11 := fun i => bw11.out.cell i
  have hcbx111 := fun i => bx111.out.cell i
  have hcbg11 := fun i => bg11.out.cell i
  go_wp2_with fail
  refine (eqBindS' t0 X01 Y01 x01 y01 _ (Ox011.out.sl.keep fun b hb => ⟨Nat.lt_of_lt_of_le hb.2 Lx011.out, rfl⟩) yf011.out).mono ?_
  rintro e w9 ⟨rfl, hb9⟩
  have B12 := B11.trans (hb9.mono B11.size)
  have OW12 := Lib.hid (OW11.out.keep (S' := Btw ((w2).heap.size) (wcW.heap.size)) (w' := w9) fun b hb => ⟨hb, hb9.block b (Nat.lt_of_lt_of_le hb.2 LW11.out)⟩)
  have LW12 := Lib.hid (show wcW.heap.size ≤ (w9).heap.size from Nat.le_trans LW11.out hb9.size)
  have Ox012 := Lib.hid (Ox011.out.keep (S' := Btw ((wcW).heap.size) (w4.heap.size)) (w' := w9) fun b hb => ⟨hb, hb9.block b (Nat.lt_of_lt_of_le hb.2 Lx011.out)⟩)
  have Lx012 := Lib.hid (show w4.heap.size ≤ (w9).heap.size from Nat.le_trans Lx011.out hb9.size)
  have Ox112 := Lib.hid (Ox111.out.keep (S' := Btw ((w4).heap.size) (w5.heap.size)) (w' := w9) fun b hb => ⟨hb, hb9.block b (Nat.lt_of_lt_of_le hb.2 Lx111.out)⟩)
  have Lx112 := Lib.hid (show w5.heap.size ≤ (w9).heap.size from Nat.le_trans Lx111.out hb9.size)
  have OG12 := Lib.hid (OG11.out.keep (S' := Btw ((w5.alloc (.cells #[.int .i64 t1.op, .int .i64 t1.n, .string t1.s, .slice X11 t1.kids.length x11] 64)).heap.size) (w6.heap.size)) (w' := w9) fun b hb => ⟨hb, hb9.block b (Nat.lt_of_lt_of_le hb.2 LG11.out)⟩)
  have LG12 := Lib.hid (show w6.heap.size ≤ (w9).heap.size from Nat.le_trans LG11.out hb9.size)
  have ba112 := Lib.hid (ba111.out.below hb9 ba111.out.lt)
  have bw12 := Lib.hid (bw11.out.below hb9 bw11.out.lt)
  have bx112 := Lib.hid (bx111.out.below hb9 bx111.out.lt)
  have bg12 := Lib.hid (bg11.out.below hb9 bg11.out.lt)
  have at012 := Lib.hid (at011.out.below hb9 hb9.size)
  have at112 := Lib.hid (at111.out.below hb9 hb9.size)
  have yf012 := Lib.hid (yf011.out.below hb9 hb9.size)
  have hcba112 := fun i => ba112.out.cell i
  have hcbw12 := fun i => bw12.out.cell i
  have hcbx112 := fun i => bx112.out.cell i
  have hcbg12 := fun i => bg12.out.cell i
  go_wp2_with fail
  have B13 : Below w.heap.size w (w9).drew := B12.drew
  have ba113 : Hid (Row (w9).drew (w.heap.size) 59 #[.int .i64 t1.op, .int .i64 t1.n, .string t1.s, .slice A11 t1.kids.length c11]) := ba112
  have bw13 : Hid (Row (w9).drew (gW) 64 #[.int .i64 (t1.sub (bindOf t0)).op, .int .i64 (t1.sub (bindOf t0)).n, .string (t1.sub (bindOf t0)).s, .slice DOR1 (t1.sub (bindOf t0)).kids.length dor1]) := bw12
  have bx113 : Hid (Row (w9).drew (w5.heap.size) 64 #[.int .i64 t1.op, .int .i64 t1.n, .string t1.s, .slice X11 t1.kids.length x11]) := bx112
  have bg13 : Hid (Row (w9).drew (w6.heap.size) 64 #[.int .i64 (t1.sub (bindOf t0)).op, .int .i64 (t1.sub (bindOf t0)).n, .string (t1.sub (bindOf t0)).s, .slice GR1 (t1.sub (bindOf t0)).kids.length gr1]) := bg12
  have at013 := Lib.hid (at012.out.keep (w' := (w9).drew) (S' := Lt (w9).drew.heap.size) fun b hb => ⟨hb, rfl⟩)
  have at113 := Lib.hid (at112.out.keep (w' := (w9).drew) (S' := Lt (w9).drew.heap.size) fun b hb => ⟨hb, rfl⟩)
  have OW13 := Lib.hid (OW12.out.keep (S' := Btw ((w2).heap.size) (wcW.heap.size)) (w' := (w9).drew) fun b hb => ⟨hb, rfl⟩)
  have LW13 := Lib.hid (show wcW.heap.size ≤ ((w9).drew).heap.size from Nat.le_trans LW12.out (Nat.le_refl _))
  have Ox013 := Lib.hid (Ox012.out.keep (S' := Btw ((wcW).heap.size) (w4.heap.size)) (w' := (w9).drew) fun b hb => ⟨hb, rfl⟩)
  have Lx013 := Lib.hid (show w4.heap.size ≤ ((w9).drew).heap.size from Nat.le_trans Lx012.out (Nat.le_refl _))
  have Ox113 := Lib.hid (Ox112.out.keep (S' := Btw ((w4).heap.size) (w5.heap.size)) (w' := (w9).drew) fun b hb => ⟨hb, rfl⟩)
  have Lx113 := Lib.hid (show w5.heap.size ≤ ((w9).drew).heap.size from Nat.le_trans Lx112.out (Nat.le_refl _))
  have OG13 := Lib.hid (OG12.out.keep (S' := Btw ((w5.alloc (.cells #[.int .i64 t1.op, .int .i64 t1.n, .string t1.s, .slice X11 t1.kids.length x11] 64)).heap.size) (w6.heap.size)) (w' := (w9).drew) fun b hb => ⟨hb, rfl⟩)
  have LG13 := Lib.hid (show w6.heap.size ≤ ((w9).drew).heap.size from Nat.le_trans LG12.out (Nat.le_refl _))
  have hcba113 := fun i => ba113.out.cell i
  have hcbw13 := fun i => bw13.out.cell i
  have hcbx113 := fun i => bx113.out.cell i
  have hcbg13 := fun i => bg13.out.cell i
  go_region_held3 (fun w' => (∀ i, w'.cell? ⟨w.heap.size, i, none⟩ = (#[.int .i64 t1.op, .int .i64 t1.n, .string t1.s, .slice A11 t1.kids.length c11] : Array Value)[i]?) ∧ (∀ i, w'.cell? ⟨gW, i, none⟩ = (#[.int .i64 (t1.sub (bindOf t0)).op, .int .i64 (t1.sub (bindOf t0)).n, .string (t1.sub (bindOf t0)).s, .slice DOR1 (t1.sub (bindOf t0)).kids.length dor1] : Array Value)[i]?) ∧ (∀ i, w'.cell? ⟨w5.heap.size, i, none⟩ = (#[.int .i64 t1.op, .int .i64 t1.n, .string t1.s, .slice X11 t1.kids.length x11] : Array Value)[i]?) ∧ (∀ i, w'.cell? ⟨w6.heap.size, i, none⟩ = (#[.int .i64 (t1.sub (bindOf t0)).op, .int .i64 (t1.sub (bindOf t0)).n, .string (t1.sub (bindOf t0)).s, .slice GR1 (t1.sub (bindOf t0)).kids.length gr1] : Array Value)[i]?)) (first | exact ⟨hcba113, hcbw13, hcbx113, hcbg13⟩ | exact ⟨hcba114, hcbw14, hcbx114, hcbg14⟩ | exact ⟨hcba115, hcbw15, hcbx115, hcbg15⟩) (first
    | (go_at_call 41
       refine (toTy' t1 A11 c11 _ hm1 at113.out).mono ?_
       rintro e w10 ⟨Y11, y11, rfl, owy1, hb10⟩
       have B14 := B13.trans (hb10.mono B13.size)
       have OW14 := Lib.hid (OW13.out.keep (S' := Btw ((w2).heap.size) (wcW.heap.size)) (w' := w10) fun b hb => ⟨hb, hb10.block b (Nat.lt_of_lt_of_le hb.2 LW13.out)⟩)
       have LW14 := Lib.hid (show wcW.heap.size ≤ (w10).heap.size from Nat.le_trans LW13.out hb10.size)
       have Ox014 := Lib.hid (Ox013.out.keep (S' := Btw ((wcW).heap.size) (w4.heap.size)) (w' := w10) fun b hb => ⟨hb, hb10.block b (Nat.lt_of_lt_of_le hb.2 Lx013.out)⟩)
       have Lx014 := Lib.hid (show w4.heap.size ≤ (w10).heap.size from Nat.le_trans Lx013.out hb10.size)
       have Ox114 := Lib.hid (Ox113.out.keep (S' := Btw ((w4).heap.size) (w5.heap.size)) (w' := w10) fun b hb => ⟨hb, hb10.block b (Nat.lt_of_lt_of_le hb.2 Lx113.out)⟩)
       have Lx114 := Lib.hid (show w5.heap.size ≤ (w10).heap.size from Nat.le_trans Lx113.out hb10.size)
       have OG14 := Lib.hid (OG13.out.keep (S' := Btw ((w5.alloc (.cells #[.int .i64 t1.op, .int .i64 t1.n, .string t1.s, .slice X11 t1.kids.length x11] 64)).heap.size) (w6.heap.size)) (w' := w10) fun b hb => ⟨hb, hb10.block b (Nat.lt_of_lt_of_le hb.2 LG13.out)⟩)
       have LG14 := Lib.hid (show w6.heap.size ≤ (w10).heap.size from Nat.le_trans LG13.out hb10.size)
       have ba114 := Lib.hid (ba113.out.below hb10 ba113.out.lt)
       have bw14 := Lib.hid (bw13.out.below hb10 bw13.out.lt)
       have bx114 := Lib.hid (bx113.out.below hb10 bx113.out.lt)
       have bg14 := Lib.hid (bg13.out.below hb10 bg13.out.lt)
       have at014 := Lib.hid (at013.out.below hb10 hb10.size)
       have at114 := Lib.hid (at113.out.below hb10 hb10.size)
       have yf114 := Lib.hid (owy1.at.keep fun b hb => ⟨hb.2, rfl⟩)
       have hcba114 := fun i => ba114.out.cell i
       have hcbw14 := fun i => bw14.out.cell i
       have hcbx114 := fun i => bx114.out.cell i
       have hcbg14 := fun i => bg14.out.cell i)
    | (go_at_call 43
       refine (eqTy' t1 X11 x11 Y11 y11 _ (Ox114.out.at.keep fun b hb => ⟨Nat.lt_of_lt_of_le hb.2 Lx114.out, rfl⟩) yf114.out).mono ?_
       rintro e w11 ⟨rfl, hb11⟩
       have B15 := B14.trans (hb11.mono B14.size)
       have OW15 := Lib.hid (OW14.out.keep (S' := Btw ((w2).heap.size) (wcW.heap.size)) (w' := w11) fun b hb => ⟨hb, hb11.block b (Nat.lt_of_lt_of_le hb.2 LW14.out)⟩)
       have LW15 := Lib.hid (show wcW.heap.size ≤ (w11).heap.size from Nat.le_trans LW14.out hb11.size)
       have Ox015 := Lib.hid (Ox014.out.keep (S' := Btw ((wcW).heap.size) (w4.heap.size)) (w' := w11) fun b hb => ⟨hb, hb11.block b (Nat.lt_of_lt_of_le hb.2 Lx014.out)⟩)
       have Lx015 := Lib.hid (show w4.heap.size ≤ (w11).heap.size from Nat.le_trans Lx014.out hb11.size)
       have Ox115 := Lib.hid (Ox114.out.keep (S' := Btw ((w4).heap.size) (w5.heap.size)) (w' := w11) fun b hb => ⟨hb, hb11.block b (Nat.lt_of_lt_of_le hb.2 Lx114.out)⟩)
       have Lx115 := Lib.hid (show w5.heap.size ≤ (w11).heap.size from Nat.le_trans Lx114.out hb11.size)
       have OG15 := Lib.hid (OG14.out.keep (S' := Btw ((w5.alloc (.cells #[.int .i64 t1.op, .int .i64 t1.n, .string t1.s, .slice X11 t1.kids.length x11] 64)).heap.size) (w6.heap.size)) (w' := w11) fun b hb => ⟨hb, hb11.block b (Nat.lt_of_lt_of_le hb.2 LG14.out)⟩)
       have LG15 := Lib.hid (show w6.heap.size ≤ (w11).heap.size from Nat.le_trans LG14.out hb11.size)
       have ba115 := Lib.hid (ba114.out.below hb11 ba114.out.lt)
       have bw15 := Lib.hid (bw14.out.below hb11 bw14.out.lt)
       have bx115 := Lib.hid (bx114.out.below hb11 bx114.out.lt)
       have bg15 := Lib.hid (bg14.out.below hb11 bg14.out.lt)
       have at015 := Lib.hid (at014.out.below hb11 hb11.size)
       have at115 := Lib.hid (at114.out.below hb11 hb11.size)
       have yf115 := Lib.hid (yf114.out.below hb11 hb11.size)
       have hcba115 := fun i => ba115.out.cell i
       have hcbw15 := fun i => bw15.out.cell i
       have hcbx115 := fun i => bx115.out.cell i
       have hcbg15 := fun i => bg15.out.cell i))
  obtain ⟨k0, hk0e⟩ : ∃ k0 : Nat, k0 = 1 := ⟨_, rfl⟩
  have hcn0 : cntL GBind.cnt t0 ≤ 33554432 := by have := GBind.cnts_bulk t0; omega
  have hcn1 : t1.cnt0 ≤ 33554432 := by have := t1.cnt0_le; have := t1.cnt_bulk; omega
  go_wp2_with fail
  refine (markBindS' t0 X01 x01 k0 _ (Btw ((wcW).heap.size) (w4.heap.size)) _ (by omega) (by omega) (by omega) (fun b hb => Nat.lt_of_lt_of_le hb.2 Lx015.out) Ox015.out).mono ?_
  rintro e w12 ⟨rfl, ho12, ht12⟩
  have B16 : Below w.heap.size w w12 := B15.trans (ht12.below (fun b hb => Nat.le_trans Wx0.out hb.1) B15.size)
  have OW16 := Lib.hid (OW15.out.keep (S' := Btw ((w2).heap.size) (wcW.heap.size)) (w' := w12) fun b hb => ⟨hb, ht12.block b (Nat.lt_of_lt_of_le hb.2 LW15.out) (fun e => Nat.lt_irrefl _ (Nat.lt_of_lt_of_le hb.2 (Nat.le_trans ZW_x0.out e.1)))⟩)
  have LW16 := Lib.hid (show wcW.heap.size ≤ (w12).heap.size from Nat.le_trans LW15.out ht12.size)
  have Ox116 := Lib.hid (Ox115.out.keep (S' := Btw ((w4).heap.size) (w5.heap.size)) (w' := w12) fun b hb => ⟨hb, ht12.block b (Nat.lt_of_lt_of_le hb.2 Lx115.out) (fun e => Nat.lt_irrefl _ (Nat.lt_of_lt_of_le e.2 (Nat.le_trans Zx0_x1.out hb.1)))⟩)
  have Lx116 := Lib.hid (show w5.heap.size ≤ (w12).heap.size from Nat.le_trans Lx115.out ht12.size)
  have OG16 := Lib.hid (OG15.out.keep (S' := Btw ((w5.alloc (.cells #[.int .i64 t1.op, .int .i64 t1.n, .string t1.s, .slice X11 t1.kids.length x11] 64)).heap.size) (w6.heap.size)) (w' := w12) fun b hb => ⟨hb, ht12.block b (Nat.lt_of_lt_of_le hb.2 LG15.out) (fun e => Nat.lt_irrefl _ (Nat.lt_of_lt_of_le e.2 (Nat.le_trans Zx0_G.out hb.1)))⟩)
  have LG16 := Lib.hid (show w6.heap.size ≤ (w12).heap.size from Nat.le_trans LG15.out ht12.size)
  have ba116 : Hid (Row w12 (w.heap.size) 59 #[.int .i64 t1.op, .int .i64 t1.n, .string t1.s, .slice A11 t1.kids.length c11]) := Lib.hid ((ht12.block (w.heap.size) ba115.out.lt (fun e => Nat.lt_irrefl _ (Nat.lt_of_lt_of_le Xba1_x0.out e.1))).trans ba115.out)
  have bw16 : Hid (Row w12 (gW) 64 #[.int .i64 (t1.sub (bindOf t0)).op, .int .i64 (t1.sub (bindOf t0)).n, .string (t1.sub (bindOf t0)).s, .slice DOR1 (t1.sub (bindOf t0)).kids.length dor1]) := Lib.hid ((ht12.block (gW) bw15.out.lt (fun e => Nat.lt_irrefl _ (Nat.lt_of_lt_of_le Xbw_x0.out e.1))).trans bw15.out)
  have bx116 : Hid (Row w12 (w5.heap.size) 64 #[.int .i64 t1.op, .int .i64 t1.n, .string t1.s, .slice X11 t1.kids.length x11]) := Lib.hid ((ht12.block (w5.heap.size) bx115.out.lt (fun e => Nat.lt_irrefl _ (Nat.lt_of_lt_of_le e.2 Yx0_bx1.out))).trans bx115.out)
  have bg16 : Hid (Row w12 (w6.heap.size) 64 #[.int .i64 (t1.sub (bindOf t0)).op, .int .i64 (t1.sub (bindOf t0)).n, .string (t1.sub (bindOf t0)).s, .slice GR1 (t1.sub (bindOf t0)).kids.length gr1]) := Lib.hid ((ht12.block (w6.heap.size) bg15.out.lt (fun e => Nat.lt_irrefl _ (Nat.lt_of_lt_of_le e.2 Yx0_bg.out))).trans bg15.out)
  have at016 := Lib.hid (at00.out.below B16 B16.size)
  have at116 := Lib.hid (at10.out.below B16 B16.size)
  have hcba116 := fun i => ba116.out.cell i
  have hcbw16 := fun i => bw16.out.cell i
  have hcbx116 := fun i => bx116.out.cell i
  have hcbg16 := fun i => bg16.out.cell i
  obtain ⟨k1, hk1e⟩ : ∃ k1 : Nat, k1 = k0 + cntL GBind.cnt t0 := ⟨_, rfl⟩
  rw [← hk1e]
  go_wp2_with fail
  refine (markTy0 t1 X11 x11 k1 _ (Btw ((w4).heap.size) (w5.heap.size)) _ (by omega) (by omega) (by omega) (fun b hb => Nat.lt_of_lt_of_le hb.2 Lx116.out) Ox116.out).mono ?_
  rintro e w13 ⟨rfl, ho13, ht13⟩
  have B17 : Below w.heap.size w w13 := B16.trans (ht13.below (fun b hb => Nat.le_trans Wx1.out hb.1) B16.size)
  have OW17 := Lib.hid (OW16.out.keep (S' := Btw ((w2).heap.size) (wcW.heap.size)) (w' := w13) fun b hb => ⟨hb, ht13.block b (Nat.lt_of_lt_of_le hb.2 LW16.out) (fun e => Nat.lt_irrefl _ (Nat.lt_of_lt_of_le hb.2 (Nat.le_trans ZW_x1.out e.1)))⟩)
  have LW17 := Lib.hid (show wcW.heap.size ≤ (w13).heap.size from Nat.le_trans LW16.out ht13.size)
  have OG17 := Lib.hid (OG16.out.keep (S' := Btw ((w5.alloc (.cells #[.int .i64 t1.op, .int .i64 t1.n, .string t1.s, .slice X11 t1.kids.length x11] 64)).heap.size) (w6.heap.size)) (w' := w13) fun b hb => ⟨hb, ht13.block b (Nat.lt_of_lt_of_le hb.2 LG16.out) (fun e => Nat.lt_irrefl _ (Nat.lt_of_lt_of_le e.2 (Nat.le_trans Zx1_G.out hb.1)))⟩)
  have LG17 := Lib.hid (show w6.heap.size ≤ (w13).heap.size from Nat.le_trans LG16.out ht13.size)
  have ba117 : Hid (Row w13 (w.heap.size) 59 #[.int .i64 t1.op, .int .i64 t1.n, .string t1.s, .slice A11 t1.kids.length c11]) := Lib.hid ((ht13.block (w.heap.size) ba116.out.lt (fun e => Nat.lt_irrefl _ (Nat.lt_of_lt_of_le Xba1_x1.out e.1))).trans ba116.out)
  have bw17 : Hid (Row w13 (gW) 64 #[.int .i64 (t1.sub (bindOf t0)).op, .int .i64 (t1.sub (bindOf t0)).n, .string (t1.sub (bindOf t0)).s, .slice DOR1 (t1.sub (bindOf t0)).kids.length dor1]) := Lib.hid ((ht13.block (gW) bw16.out.lt (fun e => Nat.lt_irrefl _ (Nat.lt_of_lt_of_le Xbw_x1.out e.1))).trans bw16.out)
  have bx117 : Hid (Row w13 (w5.heap.size) 64 #[.int .i64 t1.op, .int .i64 t1.n, .string t1.s, .slice X11 t1.kids.length x11]) := Lib.hid ((ht13.block (w5.heap.size) bx116.out.lt (fun e => Nat.lt_irrefl _ (Nat.lt_of_lt_of_le e.2 Yx1_bx1.out))).trans bx116.out)
  have bg17 : Hid (Row w13 (w6.heap.size) 64 #[.int .i64 (t1.sub (bindOf t0)).op, .int .i64 (t1.sub (bindOf t0)).n, .string (t1.sub (bindOf t0)).s, .slice GR1 (t1.sub (bindOf t0)).kids.length gr1]) := Lib.hid ((ht13.block (w6.heap.size) bg16.out.lt (fun e => Nat.lt_irrefl _ (Nat.lt_of_lt_of_le e.2 Yx1_bg.out))).trans bg16.out)
  have at017 := Lib.hid (at00.out.below B17 B17.size)
  have at117 := Lib.hid (at10.out.below B17 B17.size)
  have hcba117 := fun i => ba117.out.cell i
  have hcbw17 := fun i => bw17.out.cell i
  have hcbx117 := fun i => bx117.out.cell i
  have hcbg17 := fun i => bg17.out.cell i
  obtain ⟨k2, hk2e⟩ : ∃ k2 : Nat, k2 = k1 + t1.cnt0 := ⟨_, rfl⟩
  rw [← hk2e]
  go_wp2_with fail
  refine (eqTy' (t1.sub (bindOf t0)) GR1 gr1 DOR1 dor1 _ (OG17.out.at.keep fun b hb => ⟨Nat.lt_of_lt_of_le hb.2 LG17.out, rfl⟩) (OW17.out.at.keep fun b hb => ⟨Nat.lt_of_lt_of_le hb.2 LW17.out, rfl⟩)).mono ?_
  rintro e w14 ⟨rfl, hb14⟩
  have B18 := B17.trans (hb14.mono B17.size)
  have OW18 := Lib.hid (OW17.out.keep (S' := Btw ((w2).heap.size) (wcW.heap.size)) (w' := w14) fun b hb => ⟨hb, hb14.block b (Nat.lt_of_lt_of_le hb.2 LW17.out)⟩)
  have LW18 := Lib.hid (show wcW.heap.size ≤ (w14).heap.size from Nat.le_trans LW17.out hb14.size)
  have OG18 := Lib.hid (OG17.out.keep (S' := Btw ((w5.alloc (.cells #[.int .i64 t1.op, .int .i64 t1.n, .string t1.s, .slice X11 t1.kids.length x11] 64)).heap.size) (w6.heap.size)) (w' := w14) fun b hb => ⟨hb, hb14.block b (Nat.lt_of_lt_of_le hb.2 LG17.out)⟩)
  have LG18 := Lib.hid (show w6.heap.size ≤ (w14).heap.size from Nat.le_trans LG17.out hb14.size)
  have ba118 := Lib.hid (ba117.out.below hb14 ba117.out.lt)
  have bw18 := Lib.hid (bw17.out.below hb14 bw17.out.lt)
  have bx118 := Lib.hid (bx117.out.below hb14 bx117.out.lt)
  have bg18 := Lib.hid (bg17.out.below hb14 bg17.out.lt)
  have at018 := Lib.hid (at017.out.below hb14 hb14.size)
  have at118 := Lib.hid (at117.out.below hb14 hb14.size)
  have hcba118 := fun i => ba118.out.cell i
  have hcbw18 := fun i => bw18.out.cell i
  have hcbx118 := fun i => bx118.out.cell i
  have hcbg18 := fun i => bg18.out.cell i
  have hcr : (t1.sub (bindOf t0)).cnt0 ≤ 2305843009213693952 := by have a := (t1.sub (bindOf t0)).cnt0_le; have b := (t1.sub (bindOf t0)).cnt_bulk; have c := GTy.sub_bulk (bindOf t0) (bulkL GBind.bulk t0) (fun n u h => bindOf_bulk h) (t1.bulk + 1) t1 (by omega); have d : (t1.bulk + 1) * (bulkL GBind.bulk t0 + 1) ≤ 1048577 * 1048577 := Nat.mul_le_mul (by omega) (by omega); omega
  go_wp2_with fail
  refine (markTy0 (t1.sub (bindOf t0)) GR1 gr1 k0 _ (Btw ((w5.alloc (.cells #[.int .i64 t1.op, .int .i64 t1.n, .string t1.s, .slice X11 t1.kids.length x11] 64)).heap.size) (w6.heap.size)) _ (by omega) (by omega) (by omega) (fun b hb => Nat.lt_of_lt_of_le hb.2 LG18.out) OG18.out).mono ?_
  rintro e w15 ⟨rfl, ho15, ht15⟩
  have B19 : Below w.heap.size w w15 := B18.trans (ht15.below (fun b hb => Nat.le_trans WG.out hb.1) B18.size)
  have OW19 := Lib.hid (OW18.out.keep (S' := Btw ((w2).heap.size) (wcW.heap.size)) (w' := w15) fun b hb => ⟨hb, ht15.block b (Nat.lt_of_lt_of_le hb.2 LW18.out) (fun e => Nat.lt_irrefl _ (Nat.lt_of_lt_of_le hb.2 (Nat.le_trans ZW_G.out e.1)))⟩)
  have LW19 := Lib.hid (show wcW.heap.size ≤ (w15).heap.size from Nat.le_trans LW18.out ht15.size)
  have ba119 : Hid (Row w15 (w.heap.size) 59 #[.int .i64 t1.op, .int .i64 t1.n, .string t1.s, .slice A11 t1.kids.length c11]) := Lib.hid ((ht15.block (w.heap.size) ba118.out.lt (fun e => Nat.lt_irrefl _ (Nat.lt_of_lt_of_le Xba1_G.out e.1))).trans ba118.out)
  have bw19 : Hid (Row w15 (gW) 64 #[.int .i64 (t1.sub (bindOf t0)).op, .int .i64 (t1.sub (bindOf t0)).n, .string (t1.sub (bindOf t0)).s, .slice DOR1 (t1.sub (bindOf t0)).kids.length dor1]) := Lib.hid ((ht15.block (gW) bw18.out.lt (fun e => Nat.lt_irrefl _ (Nat.lt_of_lt_of_le Xbw_G.out e.1))).trans bw18.out)
  have bx119 : Hid (Row w15 (w5.heap.size) 64 #[.int .i64 t1.op, .int .i64 t1.n, .string t1.s, .slice X11 t1.kids.length x11]) := Lib.hid ((ht15.block (w5.heap.size) bx118.out.lt (fun e => Nat.lt_irrefl _ (Nat.lt_of_lt_of_le Xbx1_G.out e.1))).trans bx118.out)
  have bg19 : Hid (Row w15 (w6.heap.size) 64 #[.int .i64 (t1.sub (bindOf t0)).op, .int .i64 (t1.sub (bindOf t0)).n, .string (t1.sub (bindOf t0)).s, .slice GR1 (t1.sub (bindOf t0)).kids.length gr1]) := Lib.hid ((ht15.block (w6.heap.size) bg18.out.lt (fun e => Nat.lt_irrefl _ (Nat.lt_of_lt_of_le e.2 YG_bg.out))).trans bg18.out)
  have at019 := Lib.hid (at00.out.below B19 B19.size)
  have at119 := Lib.hid (at10.out.below B19 B19.size)
  have OG19 := Lib.hid ho15
  have LG19 := Lib.hid (show w6.heap.size ≤ (w15).heap.size from Nat.le_trans LG18.out ht15.size)
  have hcba119 := fun i => ba119.out.cell i
  have hcbw19 := fun i => bw19.out.cell i
  have hcbx119 := fun i => bx119.out.cell i
  have hcbg19 := fun i => bg19.out.cell i
  obtain ⟨km, hkm⟩ : ∃ km : Nat, km = k0 + (t1.sub (bindOf t0)).cnt0 := ⟨_, rfl⟩
  rw [← hkm]
  go_wp2_with fail
  refine (heldTy0 (t1.sub (bindOf t0)) GR1 gr1 k0 _ _ (by omega) (by omega) (by omega) (OG19.out.at.keep fun b hb => ⟨Nat.lt_of_lt_of_le hb.2 LG19.out, rfl⟩)).mono ?_
  rintro e w16 ⟨rfl, hb16⟩
  have B20 := B19.trans (hb16.mono B19.size)
  have OW20 := Lib.hid (OW19.out.keep (S' := Btw ((w2).heap.size) (wcW.heap.size)) (w' := w16) fun b hb => ⟨hb, hb16.block b (Nat.lt_of_lt_of_le hb.2 LW19.out)⟩)
  have LW20 := Lib.hid (show wcW.heap.size ≤ (w16).heap.size from Nat.le_trans LW19.out hb16.size)
  have OG20 := Lib.hid (OG19.out.keep (S' := Btw ((w5.alloc (.cells #[.int .i64 t1.op, .int .i64 t1.n, .string t1.s, .slice X11 t1.kids.length x11] 64)).heap.size) (w6.heap.size)) (w' := w16) fun b hb => ⟨hb, hb16.block b (Nat.lt_of_lt_of_le hb.2 LG19.out)⟩)
  have LG20 := Lib.hid (show w6.heap.size ≤ (w16).heap.size from Nat.le_trans LG19.out hb16.size)
  have ba120 := Lib.hid (ba119.out.below hb16 ba119.out.lt)
  have bw20 := Lib.hid (bw19.out.below hb16 bw19.out.lt)
  have bx120 := Lib.hid (bx119.out.below hb16 bx119.out.lt)
  have bg20 := Lib.hid (bg19.out.below hb16 bg19.out.lt)
  have at020 := Lib.hid (at019.out.below hb16 hb16.size)
  have at120 := Lib.hid (at119.out.below hb16 hb16.size)
  have hcba120 := fun i => ba120.out.cell i
  have hcbw20 := fun i => bw20.out.cell i
  have hcbx120 := fun i => bx120.out.cell i
  have hcbg20 := fun i => bg20.out.cell i
  rw [← hkm]
  go_wp2_with fail
  go_cut [13] from 75 to 79 (fun v wc => ∃ (g : Nat) (ZOR1 : Option Addr) (zor1 : Nat), v = .pointer (some ⟨g, 0, none⟩) ∧ Row wc g 64 #[.int .i64 (t1.sub (bindOf t0)).op, .int .i64 (t1.sub (bindOf t0)).n, .string (t1.sub (bindOf t0)).s, .slice ZOR1 (t1.sub (bindOf t0)).kids.length zor1] ∧ GTy.Ow wc (Btw (w16).heap.size wc.heap.size) ZOR1 zor1 (t1.sub (bindOf t0)) ∧ (w16).heap.size ≤ g ∧ Below (w16).heap.size (w16) wc)
  case first =>
    have BD := Lib.hid (show Below (w16).heap.size (w16) ((w16).drew) from (Below.refl _ _).drew)
    have BA := Lib.hid (show Below (w16).heap.size (w16) (((w16).drew).alloc (.cells #[.int .i64 0, .int .i64 0, .string ⟨#[]⟩, .slice none 0 0] 64)) from BD.out.alloc (Nat.le_refl _) _)
    have ATd0 := Lib.hid (at020.out.below BD.out BD.out.size)
    have ATa0 := Lib.hid (at020.out.below BA.out BA.out.size)
    have ATd1 := Lib.hid (at120.out.below BD.out BD.out.size)
    have ATa1 := Lib.hid (at120.out.below BA.out BA.out.size)
    have hlba1 := ba120.out.lt
    have hlbw := bw20.out.lt
    have hlbx1 := bx120.out.lt
    have hlbg := bg20.out.lt
    have RN0 := Lib.hid (Row.new' ((w16).drew) 64 #[.int .i64 0, .int .i64 0, .string ⟨#[]⟩, .slice none 0 0] (g := w16.heap.size) rfl)
    go_region_law (first
      | (go_simp
         go_at_call 56
         refine (toBindS' t0 A0 c0 _ (by first | exact ATd0.out | exact ATa0.out) hm0).mono ?_
         rintro e wq0 ⟨Z01, z01, rfl, owz0, hbq0⟩
         have BQ0 := Lib.hid (show Below (w16).heap.size (w16) wq0 from by first | exact BD.out.trans (hbq0.mono BD.out.size) | exact BA.out.trans (hbq0.mono BA.out.size))
         have hcq0ba1 := fun i => (ba120.out.below BQ0.out ba120.out.lt).cell i
         have hlq0ba1 := (ba120.out.below BQ0.out ba120.out.lt).lt
         have hcq0bw := fun i => (bw20.out.below BQ0.out bw20.out.lt).cell i
         have hlq0bw := (bw20.out.below BQ0.out bw20.out.lt).lt
         have hcq0bx1 := fun i => (bx120.out.below BQ0.out bx120.out.lt).cell i
         have hlq0bx1 := (bx120.out.below BQ0.out bx120.out.lt).lt
         have hcq0bg := fun i => (bg20.out.below BQ0.out bg20.out.lt).cell i
         have hlq0bg := (bg20.out.below BQ0.out bg20.out.lt).lt
         have ATx1_0 := Lib.hid (at120.out.below BQ0.out BQ0.out.size)
         have ATy1_0 := Lib.hid (at120.out.below (BQ0.out.alloc BQ0.out.size (.cells #[.int .i64 0, .int .i64 0, .string ⟨#[]⟩, .slice none 0 0] 64)) (BQ0.out.alloc BQ0.out.size (.cells #[.int .i64 0, .int .i64 0, .string ⟨#[]⟩, .slice none 0 0] 64)).size)
         have DF0_0 := Lib.hid (owz0.slLt)
         have DG0_0 := Lib.hid (DF0_0.out.below (show Below wq0.heap.size wq0 (wq0.alloc (.cells #[.int .i64 0, .int .i64 0, .string ⟨#[]⟩, .slice none 0 0] 64)) from (Below.refl _ _).alloc (Nat.le_refl _) _) (show wq0.heap.size ≤ (wq0.alloc (.cells #[.int .i64 0, .int .i64 0, .string ⟨#[]⟩, .slice none 0 0] 64)).heap.size from by simp))
         have RN1 := Lib.hid (Row.new wq0 64 #[.int .i64 0, .int .i64 0, .string ⟨#[]⟩, .slice none 0 0]))
      | (go_simp
         go_at_call 41
         refine (toTy' t1 A11 c11 _ hm1 (by first | exact ATx1_0.out | exact ATy1_0.out)).mono ?_
         rintro e wq1 ⟨Z11, z11, rfl, owz1, hbq1⟩
         have BQ1 := Lib.hid (show Below (w16).heap.size (w16) wq1 from by first | exact BQ0.out.trans (hbq1.mono BQ0.out.size) | exact (BQ0.out.alloc BQ0.out.size _).trans (hbq1.mono (BQ0.out.alloc BQ0.out.size _).size))
         have hcq1ba1 := fun i => (ba120.out.below BQ1.out ba120.out.lt).cell i
         have hlq1ba1 := (ba120.out.below BQ1.out ba120.out.lt).lt
         have hcq1bw := fun i => (bw20.out.below BQ1.out bw20.out.lt).cell i
         have hlq1bw := (bw20.out.below BQ1.out bw20.out.lt).lt
         have hcq1bx1 := fun i => (bx120.out.below BQ1.out bx120.out.lt).cell i
         have hlq1bx1 := (bx120.out.below BQ1.out bx120.out.lt).lt
         have hcq1bg := fun i => (bg20.out.below BQ1.out bg20.out.lt).cell i
         have hlq1bg := (bg20.out.below BQ1.out bg20.out.lt).lt
         have DF0_1 : Hid (Sl wq1 (Lt wq1.heap.size) 5 Z01 z01 (t0.map GBind.toD)) := Lib.hid (by first | exact DF0_0.out.below hbq1 hbq1.size | exact DG0_0.out.below hbq1 hbq1.size)
         have DG0_1 := Lib.hid (DF0_1.out.below (show Below wq1.heap.size wq1 (wq1.alloc (.cells #[.int .i64 0, .int .i64 0, .string ⟨#[]⟩, .slice none 0 0] 64)) from (Below.refl _ _).alloc (Nat.le_refl _) _) (show wq1.heap.size ≤ (wq1.alloc (.cells #[.int .i64 0, .int .i64 0, .string ⟨#[]⟩, .slice none 0 0] 64)).heap.size from by simp))
         have DF1_1 := Lib.hid (owz1.at.keep fun b hb => ⟨hb.2, rfl⟩)
         have DG1_1 := Lib.hid (DF1_1.out.below (show Below wq1.heap.size wq1 (wq1.alloc (.cells #[.int .i64 0, .int .i64 0, .string ⟨#[]⟩, .slice none 0 0] 64)) from (Below.refl _ _).alloc (Nat.le_refl _) _) (show wq1.heap.size ≤ (wq1.alloc (.cells #[.int .i64 0, .int .i64 0, .string ⟨#[]⟩, .slice none 0 0] 64)).heap.size from by simp))
         have RN2 := Lib.hid (Row.new wq1 64 #[.int .i64 0, .int .i64 0, .string ⟨#[]⟩, .slice none 0 0]))
      | (go_simp
         go_at_call 57
         refine (implApply (t1.bulk + 1) t0 Z01 z01 t1 Z11 z11 _ (by omega) hm1 hm0 (by first | exact DF0_1.out | exact DG0_1.out) (by first | exact DF1_1.out | exact DG1_1.out)).mono ?_
         rintro e wr ⟨ZOR1, zor1, rfl, how, hbr⟩
         have BR := Lib.hid (show Below (w16).heap.size (w16) wr from by first | exact BQ1.out.trans (hbr.mono BQ1.out.size) | exact (BQ1.out.alloc BQ1.out.size _).trans (hbr.mono (BQ1.out.alloc BQ1.out.size _).size))
         first | (have RB := Lib.hid ((((((RN0.out).below hbq0 (RN0.out).lt)).below hbq1 (((RN0.out).below hbq0 (RN0.out).lt)).lt)).below hbr (((((RN0.out).below hbq0 (RN0.out).lt)).below hbq1 (((RN0.out).below hbq0 (RN0.out).lt)).lt)).lt); have hzc := fun i => RB.out.cell i; have hzf := fun i => RB.out.frozen i; have markp0 := trivial) | (have RB := Lib.hid ((((RN1.out).below hbq1 (RN1.out).lt)).below hbr (((RN1.out).below hbq1 (RN1.out).lt)).lt); have hzc := fun i => RB.out.cell i; have hzf := fun i => RB.out.frozen i; have markp1 := trivial) | (have RB := Lib.hid ((RN2.out).below hbr (RN2.out).lt); have hzc := fun i => RB.out.cell i; have hzf := fun i => RB.out.frozen i; have markp2 := trivial) | skip))
    all_goals
      go_wp2_with fail
      go_meet
      first
        | (have _m := markp0; exact ⟨w16.heap.size, _, _, rfl, (((((((((((((RN0.out).below hbq0 (RN0.out).lt)).below hbq1 (((RN0.out).below hbq0 (RN0.out).lt)).lt)).below hbr (((((RN0.out).below hbq0 (RN0.out).lt)).below hbq1 (((RN0.out).below hbq0 (RN0.out).lt)).lt)).lt)).set 0 _)).set 1 _)).set 2 _)).set 3 _, how.keep (S' := Btw (w16).heap.size (setCells wr (w16.heap.size) 0 [.int .i64 (t1.sub (bindOf t0)).op, .int .i64 (t1.sub (bindOf t0)).n, .string (t1.sub (bindOf t0)).s, .slice ZOR1 (t1.sub (bindOf t0)).kids.length zor1]).heap.size) (w' := setCells wr (w16.heap.size) 0 [.int .i64 (t1.sub (bindOf t0)).op, .int .i64 (t1.sub (bindOf t0)).n, .string (t1.sub (bindOf t0)).s, .slice ZOR1 (t1.sub (bindOf t0)).kids.length zor1]) (fun x hx => ⟨⟨Nat.le_trans (show (w16).heap.size ≤ _ from by first | exact BQ1.out.size | exact (BQ1.out.alloc BQ1.out.size _).size) hx.1, by rw [setCells_size]; exact hx.2⟩, setCells_block _ _ _ _ x (fun e => by subst e; exact absurd hx.1 (Nat.not_le.2 (((((RN0.out).below hbq0 (RN0.out).lt)).below hbq1 (((RN0.out).below hbq0 (RN0.out).lt)).lt)).lt))⟩), (Nat.le_refl _), setCells_below BR.out w16.heap.size 0 (Nat.le_refl _) [.int .i64 (t1.sub (bindOf t0)).op, .int .i64 (t1.sub (bindOf t0)).n, .string (t1.sub (bindOf t0)).s, .slice ZOR1 (t1.sub (bindOf t0)).kids.length zor1]⟩)
        | (have _m := markp1; exact ⟨wq0.heap.size, _, _, rfl, (((((((((((RN1.out).below hbq1 (RN1.out).lt)).below hbr (((RN1.out).below hbq1 (RN1.out).lt)).lt)).set 0 _)).set 1 _)).set 2 _)).set 3 _, how.keep (S' := Btw (w16).heap.size (setCells wr (wq0.heap.size) 0 [.int .i64 (t1.sub (bindOf t0)).op, .int .i64 (t1.sub (bindOf t0)).n, .string (t1.sub (bindOf t0)).s, .slice ZOR1 (t1.sub (bindOf t0)).kids.length zor1]).heap.size) (w' := setCells wr (wq0.heap.size) 0 [.int .i64 (t1.sub (bindOf t0)).op, .int .i64 (t1.sub (bindOf t0)).n, .string (t1.sub (bindOf t0)).s, .slice ZOR1 (t1.sub (bindOf t0)).kids.length zor1]) (fun x hx => ⟨⟨Nat.le_trans (show (w16).heap.size ≤ _ from by first | exact BQ1.out.size | exact (BQ1.out.alloc BQ1.out.size _).size) hx.1, by rw [setCells_size]; exact hx.2⟩, setCells_block _ _ _ _ x (fun e => by subst e; exact absurd hx.1 (Nat.not_le.2 (((RN1.out).below hbq1 (RN1.out).lt)).lt))⟩), BQ0.out.size, setCells_below BR.out wq0.heap.size 0 BQ0.out.size [.int .i64 (t1.sub (bindOf t0)).op, .int .i64 (t1.sub (bindOf t0)).n, .string (t1.sub (bindOf t0)).s, .slice ZOR1 (t1.sub (bindOf t0)).kids.length zor1]⟩)
        | (have _m := markp2; exact ⟨wq1.heap.size, _, _, rfl, (((((((((RN2.out).below hbr (RN2.out).lt)).set 0 _)).set 1 _)).set 2 _)).set 3 _, how.keep (S' := Btw (w16).heap.size (setCells wr (wq1.heap.size) 0 [.int .i64 (t1.sub (bindOf t0)).op, .int .i64 (t1.sub (bindOf t0)).n, .string (t1.sub (bindOf t0)).s, .slice ZOR1 (t1.sub (bindOf t0)).kids.length zor1]).heap.size) (w' := setCells wr (wq1.heap.size) 0 [.int .i64 (t1.sub (bindOf t0)).op, .int .i64 (t1.sub (bindOf t0)).n, .string (t1.sub (bindOf t0)).s, .slice ZOR1 (t1.sub (bindOf t0)).kids.length zor1]) (fun x hx => ⟨⟨Nat.le_trans (show (w16).heap.size ≤ _ from by first | exact BQ1.out.size | exact (BQ1.out.alloc BQ1.out.size _).size) hx.1, by rw [setCells_size]; exact hx.2⟩, setCells_block _ _ _ _ x (fun e => by subst e; exact absurd hx.1 (Nat.not_le.2 (by simp)))⟩), BQ1.out.size, setCells_below BR.out wq1.heap.size 0 BQ1.out.size [.int .i64 (t1.sub (bindOf t0)).op, .int .i64 (t1.sub (bindOf t0)).n, .string (t1.sub (bindOf t0)).s, .slice ZOR1 (t1.sub (bindOf t0)).kids.length zor1]⟩)
        | exact ⟨wr.heap.size, _, _, rfl, Row.new _ _ _, how.keep (fun x hx => ⟨⟨Nat.le_trans (show (w16).heap.size ≤ _ from by first | exact BQ1.out.size | exact (BQ1.out.alloc BQ1.out.size _).size) hx.1, Nat.lt_of_lt_of_le hx.2 (by simp)⟩, Below.heap_alloc _ _ _ hx.2⟩), BR.out.size, BR.out.alloc BR.out.size _⟩
        | (trace_state; sorry)
  case rest =>
  obtain ⟨gH, ZOR1, zor1, rfl, hrowH, howH, hgeH, hb17⟩ := hcut
  obtain ⟨wcH, ewc⟩ : ∃ x, x = wc := ⟨_, rfl⟩
  subst ewc
  have B21 := B20.trans (hb17.mono B20.size)
  have OW21 := Lib.hid (OW20.out.keep (S' := Btw ((w2).heap.size) (wcW.heap.size)) (w' := wcH) fun b hb => ⟨hb, hb17.block b (Nat.lt_of_lt_of_le hb.2 LW20.out)⟩)
  have LW21 := Lib.hid (show wcW.heap.size ≤ (wcH).heap.size from Nat.le_trans LW20.out hb17.size)
  have OG21 := Lib.hid (OG20.out.keep (S' := Btw ((w5.alloc (.cells #[.int .i64 t1.op, .int .i64 t1.n, .string t1.s, .slice X11 t1.kids.length x11] 64)).heap.size) (w6.heap.size)) (w' := wcH) fun b hb => ⟨hb, hb17.block b (Nat.lt_of_lt_of_le hb.2 LG20.out)⟩)
  have LG21 := Lib.hid (show w6.heap.size ≤ (wcH).heap.size from Nat.le_trans LG20.out hb17.size)
  have ba121 := Lib.hid (ba120.out.below hb17 ba120.out.lt)
  have bw21 := Lib.hid (bw20.out.below hb17 bw20.out.lt)
  have bx121 := Lib.hid (bx120.out.below hb17 bx120.out.lt)
  have bg21 := Lib.hid (bg20.out.below hb17 bg20.out.lt)
  have at021 := Lib.hid (at020.out.below hb17 hb17.size)
  have at121 := Lib.hid (at120.out.below hb17 hb17.size)
  have ZW_H := Lib.hid (show wcW.heap.size ≤ (w16).heap.size from LW20.out)
  have YW_bh := Lib.hid (show wcW.heap.size ≤ gH from Nat.le_trans LW20.out hgeH)
  have ZG_H := Lib.hid (show w6.heap.size ≤ (w16).heap.size from LG20.out)
  have YG_bh := Lib.hid (show w6.heap.size ≤ gH from Nat.le_trans LG20.out hgeH)
  have Xba1_H := Lib.hid (show w.heap.size < (w16).heap.size from ba120.out.lt)
  have Xbw_H := Lib.hid (show gW < (w16).heap.size from bw20.out.lt)
  have Xbx1_H := Lib.hid (show w5.heap.size < (w16).heap.size from bx120.out.lt)
  have Xbg_H := Lib.hid (show w6.heap.size < (w16).heap.size from bg20.out.lt)
  have WH := Lib.hid (show w.heap.size ≤ (w16).heap.size from B20.size)
  have OH21 := Lib.hid howH
  have LH21 := Lib.hid (show wcH.heap.size ≤ wcH.heap.size from Nat.le_refl _)
  have bh21 := Lib.hid hrowH
  clear hrowH howH
  have hcba121 := fun i => ba121.out.cell i
  have hcbw21 := fun i => bw21.out.cell i
  have hcbx121 := fun i => bx121.out.cell i
  have hcbg21 := fun i => bg21.out.cell i
  have hcbh21 := fun i => bh21.out.cell i
  go_wp2_with fail
  refine (eqTy' (t1.sub (bindOf t0)) ZOR1 zor1 DOR1 dor1 _ (OH21.out.at.keep fun b hb => ⟨Nat.lt_of_lt_of_le hb.2 LH21.out, rfl⟩) (OW21.out.at.keep fun b hb => ⟨Nat.lt_of_lt_of_le hb.2 LW21.out, rfl⟩)).mono ?_
  rintro e w18 ⟨rfl, hb18⟩
  have B22 := B21.trans (hb18.mono B21.size)
  have OW22 := Lib.hid (OW21.out.keep (S' := Btw ((w2).heap.size) (wcW.heap.size)) (w' := w18) fun b hb => ⟨hb, hb18.block b (Nat.lt_of_lt_of_le hb.2 LW21.out)⟩)
  have LW22 := Lib.hid (show wcW.heap.size ≤ (w18).heap.size from Nat.le_trans LW21.out hb18.size)
  have OG22 := Lib.hid (OG21.out.keep (S' := Btw ((w5.alloc (.cells #[.int .i64 t1.op, .int .i64 t1.n, .string t1.s, .slice X11 t1.kids.length x11] 64)).heap.size) (w6.heap.size)) (w' := w18) fun b hb => ⟨hb, hb18.block b (Nat.lt_of_lt_of_le hb.2 LG21.out)⟩)
  have LG22 := Lib.hid (show w6.heap.size ≤ (w18).heap.size from Nat.le_trans LG21.out hb18.size)
  have OH22 := Lib.hid (OH21.out.keep (S' := Btw ((w16).heap.size) (wcH.heap.size)) (w' := w18) fun b hb => ⟨hb, hb18.block b (Nat.lt_of_lt_of_le hb.2 LH21.out)⟩)
  have LH22 := Lib.hid (show wcH.heap.size ≤ (w18).heap.size from Nat.le_trans LH21.out hb18.size)
  have ba122 := Lib.hid (ba121.out.below hb18 ba121.out.lt)
  have bw22 := Lib.hid (bw21.out.below hb18 bw21.out.lt)
  have bx122 := Lib.hid (bx121.out.below hb18 bx121.out.lt)
  have bg22 := Lib.hid (bg21.out.below hb18 bg21.out.lt)
  have bh22 := Lib.hid (bh21.out.below hb18 bh21.out.lt)
  have at022 := Lib.hid (at021.out.below hb18 hb18.size)
  have at122 := Lib.hid (at121.out.below hb18 hb18.size)
  have hcba122 := fun i => ba122.out.cell i
  have hcbw22 := fun i => bw22.out.cell i
  have hcbx122 := fun i => bx122.out.cell i
  have hcbg22 := fun i => bg22.out.cell i
  have hcbh22 := fun i => bh22.out.cell i
  go_wp2_with fail
  refine (heldTy0 (t1.sub (bindOf t0)) GR1 gr1 k0 _ _ (by omega) (by omega) (by omega) (OG22.out.at.keep fun b hb => ⟨Nat.lt_of_lt_of_le hb.2 LG22.out, rfl⟩)).mono ?_
  rintro e w19 ⟨rfl, hb19⟩
  have B23 := B22.trans (hb19.mono B22.size)
  have OW23 := Lib.hid (OW22.out.keep (S' := Btw ((w2).heap.size) (wcW.heap.size)) (w' := w19) fun b hb => ⟨hb, hb19.block b (Nat.lt_of_lt_of_le hb.2 LW22.out)⟩)
  have LW23 := Lib.hid (show wcW.heap.size ≤ (w19).heap.size from Nat.le_trans LW22.out hb19.size)
  have OG23 := Lib.hid (OG22.out.keep (S' := Btw ((w5.alloc (.cells #[.int .i64 t1.op, .int .i64 t1.n, .string t1.s, .slice X11 t1.kids.length x11] 64)).heap.size) (w6.heap.size)) (w' := w19) fun b hb => ⟨hb, hb19.block b (Nat.lt_of_lt_of_le hb.2 LG22.out)⟩)
  have LG23 := Lib.hid (show w6.heap.size ≤ (w19).heap.size from Nat.le_trans LG22.out hb19.size)
  have OH23 := Lib.hid (OH22.out.keep (S' := Btw ((w16).heap.size) (wcH.heap.size)) (w' := w19) fun b hb => ⟨hb, hb19.block b (Nat.lt_of_lt_of_le hb.2 LH22.out)⟩)
  have LH23 := Lib.hid (show wcH.heap.size ≤ (w19).heap.size from Nat.le_trans LH22.out hb19.size)
  have ba123 := Lib.hid (ba122.out.below hb19 ba122.out.lt)
  have bw23 := Lib.hid (bw22.out.below hb19 bw22.out.lt)
  have bx123 := Lib.hid (bx122.out.below hb19 bx122.out.lt)
  have bg23 := Lib.hid (bg22.out.below hb19 bg22.out.lt)
  have bh23 := Lib.hid (bh22.out.below hb19 bh22.out.lt)
  have at023 := Lib.hid (at022.out.below hb19 hb19.size)
  have at123 := Lib.hid (at122.out.below hb19 hb19.size)
  have hcba123 := fun i => ba123.out.cell i
  have hcbw23 := fun i => bw23.out.cell i
  have hcbx123 := fun i => bx123.out.cell i
  have hcbg23 := fun i => bg23.out.cell i
  have hcbh23 := fun i => bh23.out.cell i
  rw [← hkm]
  go_wp2_with fail
  go_ret
  exact ⟨rfl, B23⟩
end Go.Proofs.Ytnjindgpmacjmaa
