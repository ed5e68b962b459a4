/- The numbers that the laws draw. Conditions: none. -/
import Derived.Test.YtdcchfpgpdekmaaDraw
import Derived.Test.YtdcchfpgpdekmaaDigits
namespace Go.Proofs.Ytdcchfpgpdekmaa
open Go.RowKit
set_option linter.unusedVariables false
set_option linter.unusedSimpArgs false
set_option maxHeartbeats 1000000

/-- a number of any size is drawn -/
theorem drawAny {l : List Int} {A : Option Addr} {c : Nat} {w : World} {g i : Nat} {h : Int} (hc : Cur l A c w g i h) :
    Calls Try.prog 88 #[.pointer (some ⟨g, 0, none⟩)] w (Drawn l A c g (fun x => -9223372036854775808 ≤ x ∧ x ≤ 9223372036854775807) w) := by
  have C0 := Lib.hid hc
  clear hc
  go_enter Try.func88, Try.ntmps88
  go_wp2_with fail
  refine (drawPickInt (l := l) (A := A) (c := c) (C0.out.turned ((Turned.refl (g + 1) w).alloc _) (Nat.lt_succ_self g)) [0, 1, -1, 5, 1073741823, 1073741824, -1073741824, -1073741825, 9223372036854775807, -9223372036854775808] w.heap.size (Nat.ne_of_gt C0.out.row.lt) _ (Row.new _ _ _) (by decide) (by decide) (fun x => -9223372036854775808 ≤ x ∧ x ≤ 9223372036854775807) (by decide)).mono ?_
  rintro e w1 ⟨x, i1, h1', rfl, hx, hc1, ht⟩
  go_wp2_with fail
  go_ret
  exact ⟨_, i1, h1', rfl, hx, hc1, ((Turned.refl g w).alloc _).trans ht⟩

/-- a number, and nothing else of what there was turns -/
def DrawnI (w : World) (e : Ending) (w' : World) : Prop := ∃ x : Int, e = .returned (.int .i64 x) ∧ (-9223372036854775808 ≤ x ∧ x ≤ 9223372036854775807) ∧ Below w.heap.size w w'

theorem drawWordOk (l : List Int) (A : Option Addr) (c : Nat) (w : World) (hs : Sl w (Lt w.heap.size) 1 A c (l.map (D.num .u8))) (hl : l.length ≤ 1048576) :
    Calls Try.prog 58 #[.slice A l.length c] w (DrawnI w) := by
  have S0 := Lib.hid hs
  clear hs
  go_enter Try.func58, Try.ntmps58
  go_wp2_with fail
  refine (newCur l A c w S0.out hl).mono ?_
  rintro e w1 ⟨h, rfl, hc, hb⟩
  have C1 := Lib.hid hc
  have B1 := Lib.hid hb
  clear hc hb
  go_wp2_with fail
  refine (drawAny C1.out).mono ?_
  rintro e w2 ⟨x, i2, h2, rfl, hx, hc2, ht⟩
  go_wp2_with fail
  go_ret
  exact ⟨x, rfl, hx, B1.out.trans (ht.below B1.out.size (Nat.le_refl _))⟩

theorem drawRound (l : List Int) (A : Option Addr) (c : Nat) (w : World) (hs : Sl w (Lt w.heap.size) 1 A c (l.map (D.num .u8))) (hl : l.length ≤ 1048576) :
    Calls Try.prog 57 #[.slice A l.length c] w (DrawnI w) := by
  have S0 := Lib.hid hs
  clear hs
  go_enter Try.func57, Try.ntmps57
  go_wp2_with fail
  refine (newCur l A c w S0.out hl).mono ?_
  rintro e w1 ⟨h, rfl, hc, hb⟩
  have C1 := Lib.hid hc
  have B1 := Lib.hid hb
  clear hc hb
  go_wp2_with fail
  refine (drawAny C1.out).mono ?_
  rintro e w2 ⟨x, i2, h2, rfl, hx, hc2, ht⟩
  go_wp2_with fail
  go_ret
  exact ⟨x, rfl, hx, B1.out.trans (ht.below B1.out.size (Nat.le_refl _))⟩

theorem drawDigits (l : List Int) (A : Option Addr) (c : Nat) (w : World) (hs : Sl w (Lt w.heap.size) 1 A c (l.map (D.num .u8))) (hl : l.length ≤ 1048576) :
    Calls Try.prog 52 #[.slice A l.length c] w (DrawnI w) := by
  have S0 := Lib.hid hs
  clear hs
  go_enter Try.func52, Try.ntmps52
  go_wp2_with fail
  refine (newCur l A c w S0.out hl).mono ?_
  rintro e w1 ⟨h, rfl, hc, hb⟩
  have C1 := Lib.hid hc
  have B1 := Lib.hid hb
  clear hc hb
  go_wp2_with fail
  refine (drawAny C1.out).mono ?_
  rintro e w2 ⟨x, i2, h2, rfl, hx, hc2, ht⟩
  go_wp2_with fail
  go_ret
  exact ⟨x, rfl, hx, B1.out.trans (ht.below B1.out.size (Nat.le_refl _))⟩

end Go.Proofs.Ytdcchfpgpdekmaa
