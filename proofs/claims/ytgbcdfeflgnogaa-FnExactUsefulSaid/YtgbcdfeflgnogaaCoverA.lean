/- Coverage: so many of anything, and two lists in a row, in both. Conditions: the sizes are bounded. -/
import Derived.Test.YtgbcdfeflgnogaaCoverP
import Derived.Test.YtgbcdfeflgnogaaANode
import Derived.Test.YtgbcdfeflgnogaaWithin
import Derived.Lib.AppendZerosOnto
namespace Go.Proofs.Ytgbcdfeflgnogaa
open Go.RowKit
set_option linter.unusedVariables false
set_option linter.unusedSimpArgs false
set_option maxHeartbeats 1000000

/-- cells of anything -/
theorem anySl (X : Nat → Prop) (w : World) (hX : ∀ b, w.heap.size ≤ b → X b) (v : Value) (hv : ∀ g, v.ownBlock = some g → g < w.heap.size) :
    Sl (w.alloc (.cells #[.int .i64 17, .int .i64 0, .string ByteArray.empty, .string ByteArray.empty, .slice none 0 0] 49)) (fun b => b < (w.alloc (.cells #[.int .i64 17, .int .i64 0, .string ByteArray.empty, .string ByteArray.empty, .slice none 0 0] 49)).heap.size ∧ v.ownBlock ≠ some b ∧ X b) 5 (some ⟨w.heap.size, 0, none⟩) 1 ([anyN].map GNode.toD) :=
  slOne (T := 49) (cs := [.int .i64 17, .int .i64 0, .string ByteArray.empty, .string ByteArray.empty, .slice none 0 0]) (Row.new' _ _ _ rfl) (anyN_rd _ _ 0 (Nat.zero_le _) none) rfl ⟨by simp, fun e => by have := hv _ e; omega, hX _ (Nat.le_refl _)⟩

set_option maxRecDepth 20000 in
theorem specAny (X : Nat → Prop) (n : Nat) (row : List GNode) (A : Option Addr) (c : Nat) (w : World) (hX : ∀ b, w.heap.size ≤ b → X b) (hn : n + row.length ≤ 1099511627776) (hs : Sl w (Lx X w) 5 A c (row.map GNode.toD)) :
    Calls Try.prog 175 #[.int .i64 n, .slice A row.length c] w (LTo X (List.replicate n anyN ++ row) w) := by
  have HX := Lib.hid hX
  have HS := Lib.hid hs
  obtain ⟨w0, e0⟩ : ∃ w0, w0 = w.alloc (.cells #[] 49) := ⟨_, rfl⟩
  have E0 := Lib.hid (show Below w.heap.size w w0 by rw [e0]; exact (Below.refl _ _).alloc (Nat.le_refl _) _)
  have G0 := Lib.hid (show Grx X w0 w.heap.size 49 5 (.slice (some ⟨w.heap.size, 0, none⟩) 0 0) 0 [] from Grx.made (by rw [e0]; exact Row.new' _ _ _ rfl) (Nat.le_refl _))
  clear hX hs
  go_enter Try.func175, Try.ntmps175
  go_wp2_with fail
  rw [← e0]
  clear e0
  go_loopw [5, 6] (fun v i wr => ∃ (j : Nat) (A : Option Addr) (c : Nat), j ≤ n ∧ i = .int .i64 j ∧ v = .slice A j c ∧ Hid (Grx X wr w.heap.size 49 5 (.slice A j c) j ((List.replicate j anyN).map GNode.toD)) ∧ Hid (Below w.heap.size w wr)) (fun _ i _ => n - (intOf i).toNat)
  case atStart => exact ⟨0, _, _, by omega, by go_num, rfl, G0, E0⟩
  case round =>
    obtain ⟨j, A', c', hj, rfl, rfl, HG, HB⟩ := hrel
    have hsz := HB.out.size
    have HOW := Lib.hid (fun g (hg : (Value.slice A' j c').ownBlock = some g) => HG.out.own g hg)
    by_cases hlt : j < n
    · have hji : (j : Int) < (n : Int) := by omega
      have EA := Lib.hid (show Below wr.heap.size wr (wr.alloc (.cells #[.int .i64 17, .int .i64 0, .string ByteArray.empty, .string ByteArray.empty, .slice none 0 0] 49)) from (Below.refl _ _).alloc (Nat.le_refl _) _)
      have GA := Lib.hid (HG.out.below EA.out)
      have TA := Lib.hid (anySl X wr (fun b hb => HX.out b (Nat.le_trans hsz hb)) (.slice A' j c') (fun g hg => (HOW.out g hg).2))
      have hBA := Nat.le_trans hsz EA.out.size
      go_wp2_with (first | (at_builtin; refine wpList_append_X (wr.alloc (.cells #[.int .i64 17, .int .i64 0, .string ByteArray.empty, .string ByteArray.empty, .slice none 0 0] 49)) rfl (.tmp 13) (.tmp 15) 29 rfl 49 zNode 5 72 Try.underlying29 (by kernel_rfl) rfl (by omega) w.heap.size (.slice A' j c') j _ GA.out (some ⟨wr.heap.size, 0, none⟩) 1 1 _ rfl TA.out hBA (by unfold maxLen; omega) (by omega) rfl rfl ?_; intro A4 c4 w4 G4 hGr4; have G4h := Lib.hid G4; have B4 := Lib.hid ((HB.out.trans (EA.out.mono hsz)).trans (hGr4.below hBA (fun g hg => (HOW.out g hg).1))); clear G4 hGr4))
      go_roundw
      case rel => exact ⟨j + 1, A4, c4, by omega, by go_num, rfl, Lib.hid (by rw [List.replicate_succ', List.map_append]; exact G4h.out), B4⟩
      case measure => simp [intOf]; omega
    · have hjn : j = n := by omega
      have HJ := Lib.hid hjn
      have TA := Lib.hid (show Sl wr (fun b => b < wr.heap.size ∧ (Value.slice A' j c').ownBlock ≠ some b ∧ X b) 5 A c (row.map GNode.toD) from HS.out.keep fun b hb => ⟨⟨Nat.lt_of_lt_of_le hb.1 hsz, fun e => by have := (HOW.out b e).1; have := hb.1; omega, hb.2⟩, HB.out.block b hb.1⟩)
      clear hjn
      go_wp2_with (first | (at_builtin; refine wpList_append_X wr rfl (.tmp 17) (.tmp 18) 29 rfl 49 zNode 5 72 Try.underlying29 (by kernel_rfl) rfl (by omega) w.heap.size (.slice A' j c') j _ HG.out A c row.length _ (by simp) TA.out hsz (by unfold maxLen; omega) (by omega) rfl rfl ?_; intro A4 c4 w4 G4 hGr4; have G4h := Lib.hid G4; have B4 := Lib.hid (HB.out.trans (hGr4.below hsz (fun g hg => (HOW.out g hg).1))); clear G4 hGr4))
      go_ret
      obtain ⟨A5, c5, e5, hs5⟩ := G4h.out.sl HX.out
      obtain ⟨rfl, rfl⟩ : A4 = A5 ∧ c4 = c5 := by simpa using e5
      refine ⟨A4, c4, by rw [HJ.out]; simp, ?_, B4.out⟩
      rw [List.map_append, ← HJ.out]
      exact hs5
set_option maxRecDepth 20000 in
theorem implAnything (X : Nat → Prop) (n : Nat) (w : World) (hX : ∀ b, w.heap.size ≤ b → X b) (hn : n ≤ 1099511627776) :
    Calls Try.prog 182 #[.int .i64 n] w (LTo X (List.replicate n anyN) w) := by
  have HX := Lib.hid hX
  obtain ⟨w0, e0⟩ : ∃ w0, w0 = w.alloc (.cells #[] 49) := ⟨_, rfl⟩
  have E0 := Lib.hid (show Below w.heap.size w w0 by rw [e0]; exact (Below.refl _ _).alloc (Nat.le_refl _) _)
  have G0 := Lib.hid (show Grx X w0 w.heap.size 49 5 (.slice (some ⟨w.heap.size, 0, none⟩) 0 0) 0 [] from Grx.made (by rw [e0]; exact Row.new' _ _ _ rfl) (Nat.le_refl _))
  clear hX
  go_enter Try.func182, Try.ntmps182
  go_wp2_with fail
  rw [← e0]
  clear e0
  go_loopw [3, 6] (fun v i wr => ∃ (j : Nat) (A : Option Addr) (c : Nat), j ≤ n ∧ i = .int .i64 j ∧ v = .slice A j c ∧ Hid (Grx X wr w.heap.size 49 5 (.slice A j c) j ((List.replicate j anyN).map GNode.toD)) ∧ Hid (Below w.heap.size w wr)) (fun _ i _ => n - (intOf i).toNat)
  case atStart => exact ⟨0, _, _, by omega, by go_num, rfl, G0, E0⟩
  case round =>
    obtain ⟨j, A', c', hj, rfl, rfl, HG, HB⟩ := hrel
    have hsz := HB.out.size
    have HOW := Lib.hid (fun g (hg : (Value.slice A' j c').ownBlock = some g) => HG.out.own g hg)
    by_cases hlt : j < n
    · have hji : (j : Int) < (n : Int) := by omega
      have EA := Lib.hid (show Below wr.heap.size wr (wr.alloc (.cells #[.int .i64 17, .int .i64 0, .string ByteArray.empty, .string ByteArray.empty, .slice none 0 0] 49)) from (Below.refl _ _).alloc (Nat.le_refl _) _)
      have GA := Lib.hid (HG.out.below EA.out)
      have TA := Lib.hid (anySl X wr (fun b hb => HX.out b (Nat.le_trans hsz hb)) (.slice A' j c') (fun g hg => (HOW.out g hg).2))
      have hBA := Nat.le_trans hsz EA.out.size
      go_wp2_with (first | (at_builtin; refine wpList_append_X (wr.alloc (.cells #[.int .i64 17, .int .i64 0, .string ByteArray.empty, .string ByteArray.empty, .slice none 0 0] 49)) rfl (.tmp 8) (.tmp 10) 29 rfl 49 zNode 5 72 Try.underlying29 (by kernel_rfl) rfl (by omega) w.heap.size (.slice A' j c') j _ GA.out (some ⟨wr.heap.size, 0, none⟩) 1 1 _ rfl TA.out hBA (by unfold maxLen; omega) (by omega) rfl rfl ?_; intro A4 c4 w4 G4 hGr4; have G4h := Lib.hid G4; have B4 := Lib.hid ((HB.out.trans (EA.out.mono hsz)).trans (hGr4.below hBA (fun g hg => (HOW.out g hg).1))); clear G4 hGr4))
      go_roundw
      case rel => exact ⟨j + 1, A4, c4, by omega, by go_num, rfl, Lib.hid (by rw [List.replicate_succ', List.map_append]; exact G4h.out), B4⟩
      case measure => simp [intOf]; omega
    · have hjn : j = n := by omega
      have HJ := Lib.hid hjn
      clear hjn
      go_wp2_with fail
      go_ret
      obtain ⟨A5, c5, e5, hs5⟩ := HG.out.sl HX.out
      obtain ⟨rfl, rfl⟩ : A' = A5 ∧ c' = c5 := by simpa using e5
      refine ⟨A', c', by rw [HJ.out]; simp, ?_, HB.out⟩
      rw [← HJ.out]
      exact hs5

theorem zNode_cells : zNode.cells.size = 5 := rfl
set_option maxRecDepth 20000 in
theorem implGrow (X : Nat → Prop) (n : Nat) (w : World) (hn : n ≤ 1099511627776) :
    Calls Try.prog 241 #[.slice none 0 0, .int .i64 n] w (fun e w' => ∃ A c, e = .returned (.slice A 0 c) ∧ Grx X w' w.heap.size 49 5 (.slice A 0 c) 0 [] ∧ Below w.heap.size w w') := by
  by_cases h0 : n = 0
  · subst h0
    go_enter Try.func241, Try.ntmps241
    go_wp2_with fail
    go_ret
    exact ⟨none, 0, rfl, Grx.nil _ _ _ _ _, Below.refl _ _⟩
  · obtain ⟨i, hi⟩ : ∃ i, Try.prog.info? 49 = some i := Option.isSome_iff_exists.1 (by kernel_rfl)
    have hp : (Try.prog.info? 49).map (fun i => (i.zero, i.size, i.bytes)) = some (some zNode, 5, 72) := by kernel_rfl
    obtain ⟨i', i1, i2, i3, i4⟩ := info_parts hp
    have hold : (Builtin.firstCells i'.size 0 (.slice none 0 0)).run Try.prog w.drew = .ok ([] : List Value).toArray w.drew := run_firstCells_none w.drew i'.size 0 0 0
    have hrz := fun ty => Lib.run_append_grow_zeros (P := Try.prog) w 29 3 ty 49 i' zNode .i64 .i64 Try.underlying29 (by kernel_rfl) i1 i2 none 0 0 [] hold n (by omega) (by rw [i3]; omega) (by omega) (by omega) (by rw [i4]; omega) (by rw [i4]; exact growslice_fits (by omega) (by omega))
    rw [Nat.zero_add] at hrz
    obtain ⟨G, hG⟩ : ∃ G, G = grownCap w n 0 49 := ⟨_, rfl⟩
    rw [← hG] at hrz
    have hGn : n ≤ G := by rw [hG]; exact grownCap_ge w _ _ _
    have hG63 : G ≤ maxLen := by rw [hG]; exact grownCap_le_maxLen w n 0 _ (by unfold maxLen; omega)
    have hG64 : G ≤ 9223372036854775807 := hG63
    have hni : (0 : Int) < n := by omega
    have h1 : ¬ ((n : Int) < 0) := by omega
    have h2 : wrap64 ((n : Int) - 0) = (n : Int) := by unfold wrap64; omega
    have h4 : (n : Int) > 0 := by omega
    obtain ⟨cs, hcs⟩ : ∃ cs : Array Value, cs = ([] : List Value).toArray ++ Builtin.zeroCells zNode.cells n ++ Builtin.zeroCells zNode.cells (G - n) := ⟨_, rfl⟩
    rw [← hcs] at hrz
    have HC := Lib.hid (show cs.size = G * 5 by rw [hcs]; simp [Builtin.zeroCells, zNode_cells]; omega)
    have HG63 := Lib.hid hG63
    obtain ⟨w1, e1⟩ : ∃ w1, w1 = w.drew.alloc (.cells cs 49) := ⟨_, rfl⟩
    have B1 := Lib.hid (show Below w.heap.size w w1 by rw [e1]; exact (Below.refl w.heap.size w).drew.alloc (Nat.le_refl _) _)
    have R1 := Lib.hid (show Row w1 w.heap.size 49 cs by rw [e1]; exact Row.new' _ _ _ rfl)
    rw [← e1] at hrz
    clear hold hG hcs e1 i1 i2 i3 i4 hp hi
    go_enter Try.func241, Try.ntmps241
    go_wp2_with (at_builtin; refine Lib.wpList_append_run _ rfl _ _ _ _ rfl _ _ rfl rfl _ _ (hrz _) ?_)
    go_ret
    exact ⟨some ⟨w.heap.size, 0, none⟩, G, rfl, Grx.roomy R1.out (Nat.le_refl _) HG63.out HC.out, B1.out⟩
end Go.Proofs.Ytgbcdfeflgnogaa
