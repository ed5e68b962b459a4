/- Coverage: slices.Concat of rows. Conditions: the result is bounded. -/
import Derived.Test.YtgbcdfeflgnogaaCoverA
namespace Go.Proofs.Ytgbcdfeflgnogaa
open Go.RowKit
set_option linter.unusedVariables false
set_option linter.unusedSimpArgs false
set_option maxHeartbeats 1000000

theorem Sl.stay {X : Nat → Prop} {w w' : World} {size : Nat} {A : Option Addr} {c : Nat} {xs : List D} (h : Sl w (Lx X w) size A c xs) (hb : Below w.heap.size w w') : Sl w' (Lx X w) size A c xs := h.keep fun b hb' => ⟨hb', hb.block b hb'.1⟩
/-- two rows in a block -/
theorem slTwoRows {X : Nat → Prop} {w w' : World} {g : Nat} {T : TypeId} {A1 A2 : Option Addr} {c1 c2 : Nat} {r1 r2 : List GNode} (hr : Row w' g T #[.slice A1 r1.length c1, .slice A2 r2.length c2]) (hX : X g) (h1 : Sl w' (Lx X w') 5 A1 c1 (r1.map GNode.toD)) (h2 : Sl w' (Lx X w') 5 A2 c2 (r2.map GNode.toD)) :
    Sl w' (Lx X w') 1 (some ⟨g, 0, none⟩) 2 ([r1, r2].map rowD) := by
  refine ⟨by simp, by unfold maxLen; omega, .inr ⟨g, 0, rfl, ⟨hr.lt, hX⟩, ?_⟩⟩
  refine rdC_row [rowD r1, rowD r2] [.slice A1 r1.length c1, .slice A2 r2.length c2] 0 (fun j v hj => ?_) ?_
  · rw [Nat.zero_add, hr.cell]; simpa using hj
  · simp only [rdC]
    refine ⟨[.slice A1 r1.length c1], [.slice A2 r2.length c2], by simp, rfl, ?_, [.slice A2 r2.length c2], [], by simp, rfl, ?_, rfl⟩
    · unfold rowD; rw [D.rd_sl]; exact ⟨A1, c1, by simp, h1⟩
    · unfold rowD; rw [D.rd_sl]; exact ⟨A2, c2, by simp, h2⟩
/-- where the rest of a row lies -/
def tailA (b off size c : Nat) : Option Addr := if c = 1 then some ⟨b, off, none⟩ else some ⟨b, off + size, none⟩
theorem run_tail {P : Program} (T e : TypeId) (size : Nat) (ht : P.underlying T = some (.slice e)) (hi : (P.info? e).map (fun i => i.size) = some size) (b off n c : Nat) (hn : n < c) (w : World) :
    (Instr.slice T (.slice (some ⟨b, off, none⟩) (n + 1) c) (some (.int .i64 1)) none none).run P w = .ok (.slice (tailA b off size c) n (c - 1)) w := by
  have he : P.elem T = e := by simp [Program.elem, ht]
  obtain ⟨i, h1, h2⟩ := Option.map_eq_some_iff.1 hi
  subst h2
  rw [run_slice_l w T (some ⟨b, off, none⟩) (n + 1) c (by rw [he]; exact ht) .i64 1 (by omega) (by omega)]
  rw [he]
  simp only [sizeOf, typeInfo, Sem.run_bind, h1, Result.andThen_ok, Sem.run_pure, sliced, tailA]
  by_cases hc : c = 1
  · subst hc
    simp [h1, Result.andThen]
  · simp [h1, Result.andThen, hc, Addr.add]
theorem rowTail {w : World} {S : Nat → Prop} {b off c : Nat} {q : GNode} {t : List GNode} (h : Sl w S 5 (some ⟨b, off, none⟩) c ((q :: t).map GNode.toD)) : Sl w S 5 (tailA b off 5 c) (c - 1) (t.map GNode.toD) := by
  obtain ⟨b', off', A1, c1, e, _, _, _, _, _, _, _, _, _, h1, h2⟩ := row_head h
  obtain ⟨rfl, rfl⟩ : b = b' ∧ off = off' := by simpa using e
  unfold tailA
  split
  · rename_i hc
    rw [show c - 1 = 0 by omega]
    exact h2 hc
  · exact h1
theorem ret_sl {A : Option Addr} {n m c : Nat} (h : n = m) : Ending.returned (.slice A n c) = .returned (.slice A m c) := by rw [h]
theorem flat_take {α : Type} (ls : List (List α)) {j : Nat} (h : j < ls.length) : (ls.take (j + 1)).flatten = (ls.take j).flatten ++ ls[j] := by
  rw [take_snoc' ls j h, List.flatten_append]; simp
theorem flat_le {α : Type} (ls : List (List α)) (j : Nat) : (ls.take j).flatten.length ≤ ls.flatten.length := by
  conv => rhs; rw [← List.take_append_drop j ls]
  rw [List.flatten_append, List.length_append]; omega

set_option maxRecDepth 20000 in
theorem implConcat (X : Nat → Prop) (ls : List (List GNode)) (A : Option Addr) (c : Nat) (w : World) (hX : ∀ b, w.heap.size ≤ b → X b) (hn : ls.flatten.length ≤ 1099511627776) (hs : Sl w (Lx X w) 1 A c (ls.map rowD)) :
    Calls Try.prog 179 #[.slice A ls.length c] w (LTo X ls.flatten w) := by
  have HX := Lib.hid hX
  have hlen : ls.length ≤ 9223372036854775807 := by simpa using hs.len
  have HS := Lib.hid hs
  have HF := Lib.hid (fun (j : Nat) (h : j < ls.length) => flat_take ls h)
  have HL := Lib.hid (fun (j : Nat) => Nat.le_trans (flat_le ls j) hn)
  clear hX hs hn
  go_enter Try.func179, Try.ntmps179
  go_wp2_with fail
  go_loopw [3, 11] (fun s i wr => ∃ (j n : Nat), j ≤ ls.length ∧ i = .int .i64 j ∧ s = .int .i64 n ∧ n ≤ 1099511627776 ∧ Hid (n = (ls.take j).flatten.length) ∧ Hid (Below w.heap.size w wr)) (fun _ i _ => ls.length - (intOf i).toNat)
  case atStart => exact ⟨0, 0, by omega, by go_num, by go_num, by omega, Lib.hid (by simp), Lib.hid (Below.refl _ _)⟩
  case round =>
    obtain ⟨j, n, hj, rfl, rfl, hn, HN, HB⟩ := hrel
    have hsz := HB.out.size
    by_cases hlt : j < ls.length
    · obtain ⟨b, off, A1, c1, rfl, hSb, g0, hs1⟩ := rowD_elem (HS.out.stay HB.out) j hlt
      have hl1 : n + (ls[j]).length ≤ 1099511627776 := by
        have h1 := HL.out (j + 1)
        rw [HF.out j hlt, List.length_append, ← HN.out] at h1
        exact h1
      have hn0 : ¬ ((n : Int) + ((ls[j]).length : Int) < 0) := by omega
      clear hs1
      go_wp2_with fail
      go_roundw
      case rel => exact ⟨j + 1, n + (ls[j]).length, by omega, by go_num, by go_num, hl1, Lib.hid (by rw [HF.out j hlt, List.length_append, ← HN.out]), HB⟩
      case measure => simp [intOf]; omega
    · have hje : j = ls.length := by omega
      have HNN := Lib.hid (show n = ls.flatten.length by rw [HN.out, hje, List.take_length])
      clear hje
      go_wp2_with fail
      refine (implGrow X n _ hn).mono ?_
      rintro e w1 ⟨A1, c1, rfl, hG, hb1⟩
      have HG := Lib.hid (show Grx X w1 w.heap.size 49 5 (.slice A1 0 c1) 0 [] from by
        obtain ⟨h1, cs, h2, h3⟩ := hG
        refine ⟨h1, cs, ⟨h2.1, ?_⟩, h3⟩
        rcases h2.2 with h | ⟨g, cap, cur, r1, r2, r3⟩
        · exact .inl h
        · exact .inr ⟨g, cap, cur, r1, by omega, r3⟩)
      have HB1 := Lib.hid (HB.out.trans (hb1.mono hsz))
      clear hG hb1 hlt
      go_wp2_with fail
      go_loopw [6, 27] (fun v i wr => ∃ (j n : Nat) (A : Option Addr) (c : Nat), j ≤ ls.length ∧ i = .int .i64 j ∧ v = .slice A n c ∧ n ≤ 1099511627776 ∧ Hid (n = (ls.take j).flatten.length) ∧ Hid (Grx X wr w.heap.size 49 5 (.slice A n c) n ((ls.take j).flatten.map GNode.toD)) ∧ Hid (Below w.heap.size w wr)) (fun _ i _ => ls.length - (intOf i).toNat)
      case atStart => exact ⟨0, 0, A1, c1, by omega, by go_num, rfl, by omega, Lib.hid (by simp), HG, HB1⟩
      case round =>
        obtain ⟨i, m, A2, c2, hi, rfl, rfl, hm, HM, HG2, HB2⟩ := hrel
        have hsz2 := HB2.out.size
        have HOW := Lib.hid (fun g (hg : (Value.slice A2 m c2).ownBlock = some g) => HG2.out.own g hg)
        by_cases hlt : i < ls.length
        · obtain ⟨b, off, A3, c3, rfl, hSb, g0, hs1⟩ := rowD_elem (HS.out.stay HB2.out) i hlt
          have TA := Lib.hid (show Sl wr (fun b => b < wr.heap.size ∧ (Value.slice A2 m c2).ownBlock ≠ some b ∧ X b) 5 A3 c3 (ls[i].map GNode.toD) from hs1.keep fun b hb => ⟨⟨Nat.lt_of_lt_of_le hb.1 hsz2, fun e => by have := (HOW.out b e).1; have := hb.1; omega, hb.2⟩, rfl⟩)
          have hl1 : m + (ls[i]).length ≤ 1099511627776 := by
            have h1 := HL.out (i + 1)
            rw [HF.out i hlt, List.length_append, ← HM.out] at h1
            exact h1
          clear hs1
          go_wp2_with (first | (at_builtin; refine wpList_append_X wr rfl (.tmp 31) (.tmp 32) 29 rfl 49 zNode 5 72 Try.underlying29 (by kernel_rfl) rfl (by omega) w.heap.size (.slice A2 m c2) m _ HG2.out A3 c3 (ls[i]).length _ (by simp) TA.out hsz2 (by unfold maxLen; omega) (by omega) rfl rfl ?_; intro A5 c5 w5 G5 hGr5; have G5h := Lib.hid G5; have B5 := Lib.hid (HB2.out.trans (hGr5.below hsz2 (fun g hg => (HOW.out g hg).1))); clear G5 hGr5))
          go_roundw
          case rel => exact ⟨i + 1, m + (ls[i]).length, A5, c5, by omega, by go_num, rfl, hl1, Lib.hid (by rw [HF.out i hlt, List.length_append, ← HM.out]), Lib.hid (by rw [HF.out i hlt, List.map_append]; exact G5h.out), B5⟩
          case measure => simp [intOf]; omega
        · have hie : i = ls.length := by omega
          have HME := Lib.hid (show m = ls.flatten.length by rw [HM.out, hie, List.take_length])
          have HLE := Lib.hid (show ls.take i = ls by rw [hie, List.take_length])
          clear hie
          go_wp2_with fail
          go_ret
          obtain ⟨A5, c5, e5, hs5⟩ := HG2.out.sl HX.out
          obtain ⟨rfl, rfl⟩ : A2 = A5 ∧ c2 = c5 := by simpa using e5
          rw [HLE.out] at hs5
          exact ⟨A2, c2, ret_sl HME.out, hs5, HB2.out⟩
end Go.Proofs.Ytgbcdfeflgnogaa
