/- The digits that the laws draw. Conditions: none. -/
import Derived.Test.YtdcchfpgpdekmaaDrawNum
import Derived.Deep.RegionHeld3
namespace Go.Proofs.Ytdcchfpgpdekmaa
open Go.RowKit
set_option linter.unusedVariables false
set_option linter.unusedSimpArgs false
set_option maxHeartbeats 1000000

def DrawnStr (w : World) (e : Ending) (w' : World) : Prop := ∃ s : ByteArray, e = .returned (.string s) ∧ s.size ≤ 100 ∧ Below w.heap.size w w'

set_option maxRecDepth 20000 in
theorem drawNumber (l : List Int) (A : Option Addr) (c : Nat) (w : World) (hs : Sl w (Lt w.heap.size) 1 A c (l.map (D.num .u8))) (hl : l.length ≤ 1048576) :
    Calls Try.prog 56 #[.slice A l.length c] w (DrawnStr w) := by
  have S0 := Lib.hid hs
  clear hs
  go_enter Try.func56, Try.ntmps56
  go_wp2_with fail
  refine (newCur l A c w S0.out hl).mono ?_
  rintro e w1 ⟨h, rfl, hc, hb⟩
  have C1 := Lib.hid hc
  have B1 := Lib.hid hb
  have hlt1 := hc.row.lt
  clear hc hb
  go_wp2_with fail
  refine (drawAny C1.out).mono ?_
  rintro e w2 ⟨x, i2, h2, rfl, hx, hc2, ht2⟩
  have C2 := Lib.hid hc2
  have B2 := Lib.hid (B1.out.trans (ht2.below B1.out.size (Nat.le_refl _)))
  have hz := digI_size x hx.1 hx.2
  have hlt2 := hc2.row.lt
  clear hc2 ht2
  go_wp2_with fail
  refine (specDigits x _ hx.1 hx.2).mono ?_
  rintro e w3 ⟨rfl, hb3⟩
  have C3 := Lib.hid (C2.out.below hb3 hlt2)
  have B3 := Lib.hid (B2.out.trans (hb3.mono B2.out.size))
  clear hb3 hx
  generalize digI x = s at *
  go_wp2_with fail
  refine (drawBelow C3.out ((s.size : Int) + 1) (by omega) (by omega)).mono ?_
  rintro e w4 ⟨x4, i4, h4, rfl, hx4, hc4, ht4⟩
  have C4 := Lib.hid hc4
  have B4 := Lib.hid (B3.out.trans (ht4.below B3.out.size (Nat.le_refl _)))
  have hlt4 := hc4.row.lt
  clear hc4 ht4
  obtain ⟨hx40, hx41⟩ := hx4
  obtain ⟨n, rfl⟩ := Int.eq_ofNat_of_zero_le hx40
  have hn : n ≤ s.size := by omega
  have hn2 : (n : Int) ≤ (s.size : Int) := by omega
  go_wp2_with fail
  refine (drawBelow C4.out 5 (by omega) (by omega)).mono ?_
  rintro e w5 ⟨x5, i5, h5, rfl, hx5, hc5, ht5⟩
  have C5 := Lib.hid hc5
  have B5 := Lib.hid (B4.out.trans (ht5.below B4.out.size (Nat.le_refl _)))
  have hlt5 := hc5.row.lt
  clear hc5 ht5
  by_cases h0 : x5 = 0
  · subst h0
    go_wp2_with fail
    have e1 : (s.extract 0 n).size = n := by simp [ByteArray.size_extract]; omega
    have e2 : (s.extract n s.size).size = s.size - n := by simp [ByteArray.size_extract]
    go_region_held3 (fun _ => True) (trivial)
      (first
      | (go_at_call 91
         refine (drawPick (l := l) (A := A) (c := c) (C5.out.turned ((Turned.refl (w.heap.size + 1) w5).drew.alloc _) (Nat.lt_succ_self _)) [⟨#[48]⟩, ⟨#[45]⟩, ⟨#[32]⟩, ⟨#[120]⟩, ⟨#[57]⟩] w5.heap.size (Nat.ne_of_gt hlt5) _ (Row.new _ _ _) (by decide) (by decide) (fun s => s.size ≤ 1) (by decide)).mono ?_
         rintro e w6 ⟨z, i6, h6, rfl, hz6, hc6, ht6⟩
         have B6 := Lib.hid (B5.out.trans ((Turned.refl w.heap.size w5).drew.alloc _ |>.trans ht6 |>.below B5.out.size (Nat.le_refl _)))
         have z1 : ¬ 9223372036854775807 < (s.extract 0 n).size + z.size := by omega
         have z2 : ¬ 9223372036854775807 < (s.extract 0 n).size + z.size + (s.extract n s.size).size := by omega
         have z3 : ¬ 9223372036854775807 < n + z.size := by omega
         have z4 : ¬ 9223372036854775807 < n + z.size + (s.size - n) := by omega
         have z5 : ¬ 9223372036854775807 < min n s.size + z.size := by omega
         have z6 : ¬ 9223372036854775807 < min n s.size + z.size + (s.size - n) := by omega
         clear hc6 ht6))
    go_wp2_with fail
    go_ret
    exact ⟨_, rfl, by simp only [ByteArray.size_append']; omega, B6.out⟩
  · by_cases h1 : x5 = 1
    · subst h1
      go_wp2_with fail
      go_ret
      exact ⟨_, rfl, by rw [ByteArray.size_extract]; omega, B5.out⟩
    · go_wp2_with fail
      go_ret
      exact ⟨s, rfl, by omega, B5.out⟩

end Go.Proofs.Ytdcchfpgpdekmaa
