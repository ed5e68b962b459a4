/- The walk of the law FnExactWrite. Conditions: none. -/
import Derived.Test.YtgbcdfeflgnogaaWriteI
import Derived.Test.YtgbcdfeflgnogaaWriteS
import Derived.Test.YtgbcdfeflgnogaaMh2
import Derived.Deep.RegionHeld3
namespace Go.Proofs.Ytgbcdfeflgnogaa
open Go.RowKit
set_option linter.unusedVariables false
set_option linter.unusedSimpArgs false
set_option maxHeartbeats 2000000

set_option maxRecDepth 20000 in
theorem walkExactWrite (t0 : GProg) (A01 : Option Addr) (c01 : Nat) (A02 : Option Addr) (c02 : Nat) (w : World) (hat0 : GProg.At w (Lt w.heap.size) A01 c01 A02 c02 t0) :
    Calls Try.prog 13 #[.agg #[.slice A01 t0.datas.length c01, .int .i64 t0.main.op, .int .i64 t0.main.n, .string t0.main.s, .string t0.main.t, .slice A02 t0.main.kids.length c02]] w fun e w' => e = .returned (.bool true) ∧ Below w.heap.size w w' := by
  have B0 : Below w.heap.size w w := Below.refl _ _
  have at00 := Lib.hid hat0
  clear hat0
  have E1 : Below (w).heap.size (w) (w.alloc (.cells #[.slice A01 t0.datas.length c01, .int .i64 t0.main.op, .int .i64 t0.main.n, .string t0.main.s, .string t0.main.t, .slice A02 t0.main.kids.length c02] 45)) := (Below.refl _ _).alloc (Nat.le_refl _) _
  have B1 : Below w.heap.size w (w.alloc (.cells #[.slice A01 t0.datas.length c01, .int .i64 t0.main.op, .int .i64 t0.main.n, .string t0.main.s, .string t0.main.t, .slice A02 t0.main.kids.length c02] 45)) := B0.alloc B0.size _
  have ba01 := Lib.hid (Row.new' (w) 45 #[.slice A01 t0.datas.length c01, .int .i64 t0.main.op, .int .i64 t0.main.n, .string t0.main.s, .string t0.main.t, .slice A02 t0.main.kids.length c02] (g := w.heap.size) rfl)
  have at01 := Lib.hid (at00.out.below E1 E1.size)
  go_enter Try.func13, Try.ntmps13
  go_wp2_with fail
  refine (szProg' t0 A01 c01 A02 c02 (1048576) _ (by omega) (by omega) at01.out).mono ?_
  rintro e w1 ⟨rfl, hb1⟩
  have B2 := B1.trans (hb1.mono B1.size)
  have ba02 := Lib.hid (ba01.out.below hb1 ba01.out.lt)
  have at02 := Lib.hid (at01.out.below hb1 hb1.size)
  have hcba02 := fun i => ba02.out.cell i
  by_cases hk0 : ((t0.bulk : Nat) : Int) ≤ 1048576
  rotate_left
  · have hv := szv_gt (b := t0.bulk) (left := 1048576) (by omega)
    go_wp2_with fail
    go_ret
    exact ⟨rfl, B2⟩
  have hv0 := szv_le hk0
  have hge0 : 0 ≤ 1048576 - ((t0.bulk : Nat) : Int) := by omega
  have hm0 : t0.bulk ≤ 1048576 := by omega
  go_wp2_with fail
  refine (toProg' t0 A01 c01 A02 c02 _ hm0 at02.out).mono ?_
  rintro e w2 ⟨D01, d01, D02, d02, rfl, owd0, hb2⟩
  have B3 := B2.trans (hb2.mono B2.size)
  have ba03 := Lib.hid (ba02.out.below hb2 ba02.out.lt)
  have at03 := Lib.hid (at02.out.below hb2 hb2.size)
  have hcba03 := fun i => ba03.out.cell i
  have df03 := Lib.hid (owd0.at.keep fun b hb => ⟨hb.2, rfl⟩)
  go_wp2_with fail
  refine (specWriteP t0 D01 d01 D02 d02 _ hm0 df03.out).mono ?_
  rintro e w3 ⟨rfl, hb3⟩
  have B4 := B3.trans (hb3.mono B3.size)
  have ba04 := Lib.hid (ba03.out.below hb3 ba03.out.lt)
  have at04 := Lib.hid (at03.out.below hb3 hb3.size)
  have df04 := Lib.hid (df03.out.below hb3 hb3.size)
  have hcba04 := fun i => ba04.out.cell i
  go_wp2_with fail
  refine (toProg' t0 A01 c01 A02 c02 _ hm0 at04.out).mono ?_
  rintro e w4 ⟨X01, x01, X02, x02, rfl, owx0, hb4⟩
  have B5 := B4.trans (hb4.mono B4.size)
  have ba05 := Lib.hid (ba04.out.below hb4 ba04.out.lt)
  have at05 := Lib.hid (at04.out.below hb4 hb4.size)
  have hcba05 := fun i => ba05.out.cell i
  have xf05 := Lib.hid (owx0.at.keep fun b hb => ⟨hb.2, rfl⟩)
  have E6 : Below (w4).heap.size (w4) (w4.alloc (.cells #[.slice X01 t0.datas.length x01, .int .i64 t0.main.op, .int .i64 t0.main.n, .string t0.main.s, .string t0.main.t, .slice X02 t0.main.kids.length x02] 51)) := (Below.refl _ _).alloc (Nat.le_refl _) _
  have B6 : Below w.heap.size w (w4.alloc (.cells #[.slice X01 t0.datas.length x01, .int .i64 t0.main.op, .int .i64 t0.main.n, .string t0.main.s, .string t0.main.t, .slice X02 t0.main.kids.length x02] 51)) := B5.alloc B5.size _
  have ba06 := Lib.hid (Row.alloc ba05.out (.cells #[.slice X01 t0.datas.length x01, .int .i64 t0.main.op, .int .i64 t0.main.n, .string t0.main.s, .string t0.main.t, .slice X02 t0.main.kids.length x02] 51))
  have bx06 := Lib.hid (Row.new' (w4) 51 #[.slice X01 t0.datas.length x01, .int .i64 t0.main.op, .int .i64 t0.main.n, .string t0.main.s, .string t0.main.t, .slice X02 t0.main.kids.length x02] (g := w4.heap.size) rfl)
  have at06 := Lib.hid (at05.out.below E6 E6.size)
  have xf06 := Lib.hid (xf05.out.below E6 E6.size)
  have hcba06 := fun i => ba06.out.cell i
  have hcbx06 := fun i => bx06.out.cell i
  go_wp2_with fail
  refine (implWriteP t0 X01 x01 X02 x02 _ hm0 xf06.out).mono ?_
  rintro e w5 ⟨rfl, hb5⟩
  have B7 := B6.trans (hb5.mono B6.size)
  have ba07 := Lib.hid (ba06.out.below hb5 ba06.out.lt)
  have bx07 := Lib.hid (bx06.out.below hb5 bx06.out.lt)
  have at07 := Lib.hid (at06.out.below hb5 hb5.size)
  have xf07 := Lib.hid (xf06.out.below hb5 hb5.size)
  have hcba07 := fun i => ba07.out.cell i
  have hcbx07 := fun i => bx07.out.cell i
  go_wp2_with fail
  have B8 : Below w.heap.size w (w5).drew := B7.drew
  have ba08 : Hid (Row (w5).drew (w.heap.size) 45 #[.slice A01 t0.datas.length c01, .int .i64 t0.main.op, .int .i64 t0.main.n, .string t0.main.s, .string t0.main.t, .slice A02 t0.main.kids.length c02]) := ba07
  have bx08 : Hid (Row (w5).drew (w4.heap.size) 51 #[.slice X01 t0.datas.length x01, .int .i64 t0.main.op, .int .i64 t0.main.n, .string t0.main.s, .string t0.main.t, .slice X02 t0.main.kids.length x02]) := bx07
  have at08 := Lib.hid (at07.out.keep (w' := (w5).drew) (S' := Lt (w5).drew.heap.size) fun b hb => ⟨hb, rfl⟩)
  have xf08 := Lib.hid (xf07.out.keep (w' := (w5).drew) (S' := Lt (w5).drew.heap.size) fun b hb => ⟨hb, rfl⟩)
  have hcba08 := fun i => ba08.out.cell i
  have hcbx08 := fun i => bx08.out.cell i
  go_region_held3 (fun w' => (∀ i, w'.cell? ⟨w.heap.size, i, none⟩ = (#[.slice A01 t0.datas.length c01, .int .i64 t0.main.op, .int .i64 t0.main.n, .string t0.main.s, .string t0.main.t, .slice A02 t0.main.kids.length c02] : Array Value)[i]?) ∧ (∀ i, w'.cell? ⟨w4.heap.size, i, none⟩ = (#[.slice X01 t0.datas.length x01, .int .i64 t0.main.op, .int .i64 t0.main.n, .string t0.main.s, .string t0.main.t, .slice X02 t0.main.kids.length x02] : Array Value)[i]?)) (first | exact ⟨hcba08, hcbx08⟩ | exact ⟨hcba09, hcbx09⟩ | exact ⟨hcba010, hcbx010⟩) (first
    | (go_at_call 31
       refine (toProg' t0 A01 c01 A02 c02 _ hm0 at08.out).mono ?_
       rintro e w6 ⟨Y01, y01, Y02, y02, rfl, owy0, hb6⟩
       have B9 := B8.trans (hb6.mono B8.size)
       have ba09 := Lib.hid (ba08.out.below hb6 ba08.out.lt)
       have bx09 := Lib.hid (bx08.out.below hb6 bx08.out.lt)
       have at09 := Lib.hid (at08.out.below hb6 hb6.size)
       have xf09 := Lib.hid (xf08.out.below hb6 hb6.size)
       have hcba09 := fun i => ba09.out.cell i
       have hcbx09 := fun i => bx09.out.cell i
       have yf09 := Lib.hid (owy0.at.keep fun b hb => ⟨hb.2, rfl⟩))
    | (go_at_call 33
       refine (eqProg' t0 X01 x01 X02 x02 Y01 y01 Y02 y02 _ xf09.out yf09.out).mono ?_
       rintro e w7 ⟨rfl, hb7⟩
       have B10 := B9.trans (hb7.mono B9.size)
       have ba010 := Lib.hid (ba09.out.below hb7 ba09.out.lt)
       have bx010 := Lib.hid (bx09.out.below hb7 bx09.out.lt)
       have at010 := Lib.hid (at09.out.below hb7 hb7.size)
       have xf010 := Lib.hid (xf09.out.below hb7 hb7.size)
       have yf010 := Lib.hid (yf09.out.below hb7 hb7.size)
       have hcba010 := fun i => ba010.out.cell i
       have hcbx010 := fun i => bx010.out.cell i))
  go_wp2_with fail
  go_ret
  exact ⟨rfl, B10⟩
end Go.Proofs.Ytgbcdfeflgnogaa
