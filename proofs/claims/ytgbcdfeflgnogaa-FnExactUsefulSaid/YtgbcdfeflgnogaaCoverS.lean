/- Coverage: the rows that fit, and the rest of rows, in the reference. Conditions: the sizes are bounded. -/
import Derived.Test.YtgbcdfeflgnogaaCoverR
namespace Go.Proofs.Ytgbcdfeflgnogaa
open Go.RowKit
set_option linter.unusedVariables false
set_option linter.unusedSimpArgs false
set_option maxHeartbeats 1000000


set_option maxRecDepth 20000 in
theorem specRest (X : Nat → Prop) (rows : List (List GNode)) (A : Option Addr) (c : Nat) (w : World) (hX : ∀ b, w.heap.size ≤ b → X b) (hr : rows.length ≤ 1048576) (hn : ∀ r ∈ rows, 0 < r.length ∧ r.length ≤ 1099511627776) (hs : Sl w (Lx X w) 1 A c (rows.map rowD)) :
    Calls Try.prog 174 #[.slice A rows.length c] w (RTo X (restR rows) w) := by
  have HX := Lib.hid hX
  have HS := Lib.hid hs
  have HN := Lib.hid hn
  have HT := Lib.hid (fun (j : Nat) (h : j < rows.length) => restR_take h)
  have HR := Lib.hid (fun (b off n c : Nat) (hn : n < c) (w : World) => run_tail (P := Try.prog) 29 49 5 Try.underlying29 (by kernel_rfl) b off n c hn w)
  obtain ⟨w0, e0⟩ : ∃ w0, w0 = w.alloc (.cells #[] 29) := ⟨_, rfl⟩
  have E0 := Lib.hid (show Below w.heap.size w w0 by rw [e0]; exact (Below.refl _ _).alloc (Nat.le_refl _) _)
  have G0 := Lib.hid (show Grx X w0 w.heap.size 29 1 (.slice (some ⟨w.heap.size, 0, none⟩) 0 0) 0 [] from Grx.made (by rw [e0]; exact Row.new' _ _ _ rfl) (Nat.le_refl _))
  have hrl : rows.length ≤ 9223372036854775807 := by omega
  clear hX hs hn
  go_enter Try.func174, Try.ntmps174
  go_wp2_with fail
  rw [← e0]
  clear e0
  go_loopw [3, 4] (fun v i wr => ∃ (j m : Nat) (A : Option Addr) (c : Nat), j ≤ rows.length ∧ i = .int .i64 j ∧ v = .slice A m c ∧ m ≤ j ∧ Hid (Grx X wr w.heap.size 29 1 (.slice A m c) m ((restR (rows.take j)).map rowD)) ∧ Hid (Below w.heap.size w wr)) (fun _ i _ => rows.length - (intOf i).toNat)
  case atStart => exact ⟨0, 0, _, _, by omega, by go_num, rfl, by omega, G0, E0⟩
  case round =>
    clear G0 E0
    obtain ⟨j, m, A', c', hj, rfl, rfl, hm, HG, HB⟩ := hrel
    have hsz := HB.out.size
    have HOW := Lib.hid (fun g (hg : (Value.slice A' m c').ownBlock = some g) => HG.out.own g hg)
    by_cases hlt : j < rows.length
    · obtain ⟨b, off, A1, c1, rfl, hSb, g0, hs1⟩ := rowD_elem (HS.out.stay HB.out) j hlt
      have hnj := HN.out _ (List.getElem_mem hlt)
      obtain ⟨q, t, hqt⟩ := List.exists_cons_of_length_pos hnj.1
      have HTJ := Lib.hid (HT.out j hlt)
      rw [hqt] at g0 hs1 hnj
      rw [List.length_cons] at g0 hnj
      have htM : t.length ≤ 1099511627776 := by omega
      obtain ⟨b1, off1, A2, c2, rfl, hSb1, hlc, hcm, q0, q1, q2, q3, q4, hat, -, -⟩ := row_head hs1
      have HTL := Lib.hid (rowTail hs1)
      have htl := HR.out b1 off1 t.length c1 (by omega)
      have HQ := Lib.hid hqt
      clear hqt hat hs1 hnj q1 q2 q3 q4
      cases h20 : (q.op == 20)
      case' true =>
        have HI := Lib.hid (isAny_con h20)
        have n20 : (q.op != 20) = false := by simp [bne, h20]
      case' false =>
        have n20 : (q.op != 20) = true := by simp [bne, h20]
        cases h19 : (q.op == 19)
        case' true =>
          have HI := Lib.hid (isAny_num h19)
          have n19 : (q.op != 19) = false := by simp [bne, h19]
      case' false.false =>
        have HI := Lib.hid (isAny_ne h20 h19)
        have n19 : (q.op != 19) = true := by simp [bne, h19]
        have HV := Lib.hid (show restR (rows.take (j + 1)) = restR (rows.take j) ++ [t] by rw [HTJ.out, HQ.out, rest1_cons, HI.out]; simp)
        obtain ⟨w1, e1⟩ : ∃ w1, w1 = wr.alloc (.cells #[] 49) := ⟨_, rfl⟩
        have E1 := Lib.hid (show Below wr.heap.size wr w1 by rw [e1]; exact (Below.refl _ _).alloc (Nat.le_refl _) _)
        have hs1 := E1.out.size
        have hs01 := Nat.le_trans hsz hs1
        have g01 := (E1.out.cell (p := ⟨b, off + j, none⟩) (Nat.lt_of_lt_of_le hSb.1 hsz)).trans g0
        rw [e1] at g01
        have G1 := Lib.hid (show Grx (Xo (Value.slice A' m c') X) w1 wr.heap.size 49 5 (.slice (some ⟨wr.heap.size, 0, none⟩) 0 0) 0 [] from Grx.made (by rw [e1]; exact Row.new' _ _ _ rfl) (Nat.le_refl _))
        have XO := Lib.hid (Xo.mk (X := X) (fun g hg => (HOW.out g hg).2) (fun b hb => HX.out b (Nat.le_trans hsz hb)))
        have T1 := Lib.hid (show Sl w1 (fun b => b < w1.heap.size ∧ (Value.slice (some ⟨wr.heap.size, 0, none⟩) 0 0).ownBlock ≠ some b ∧ Xo (Value.slice A' m c') X b) 5 (tailA b1 off1 5 c1) (c1 - 1) (t.map GNode.toD) from
          HTL.out.keep fun b hb => ⟨⟨Nat.lt_of_lt_of_le hb.1 hs01, fun e => by simp [Value.ownBlock] at e; have := hb.1; omega, fun e => by have := (HOW.out b e).1; have := hb.1; omega, hb.2⟩, E1.out.block b (Nat.lt_of_lt_of_le hb.1 hsz)⟩)
        go_wp2_with (first
          | (at_builtin; rw [← e1]; refine wpList_append_X w1 rfl (.tmp 31) (.tmp 36) 29 rfl 49 zNode 5 72 Try.underlying29 (by kernel_rfl) rfl (by omega) wr.heap.size (.slice (some ⟨wr.heap.size, 0, none⟩) 0 0) 0 _ G1.out (tailA b1 off1 5 c1) (c1 - 1) t.length _ (by simp) T1.out hs1 (by unfold maxLen; omega) (by omega) rfl rfl ?_
             intro A3 c3 w3 G3 hGr3
             rw [Nat.zero_add] at G3 ⊢
             have E3 := Lib.hid (show Below wr.heap.size wr w3 from E1.out.trans (hGr3.below hs1 (fun g hg => by simp [Value.ownBlock] at hg; omega)))
             have hs3 := E3.out.size
             have S3 := Lib.hid (show Sl w3 (fun b => b < w3.heap.size ∧ (Value.slice A' m c').ownBlock ≠ some b ∧ X b) 5 A3 c3 (t.map GNode.toD) from by
               obtain ⟨A4, c4, e4, h4⟩ := G3.sl XO.out
               obtain ⟨rfl, rfl⟩ : A3 = A4 ∧ c3 = c4 := by simpa using e4
               exact h4)
             obtain ⟨w4, e4⟩ : ∃ w4, w4 = w3.alloc (.cells #[.slice A3 t.length c3] 29) := ⟨_, rfl⟩
             have E4 := Lib.hid (show Below w3.heap.size w3 w4 by rw [e4]; exact (Below.refl _ _).alloc (Nat.le_refl _) _)
             have hs4 := Nat.le_trans (Nat.le_trans hsz hs3) E4.out.size
             have T4 := Lib.hid (oneRow (X := X) (Value.slice A' m c') (fun g hg => Nat.lt_of_lt_of_le (HOW.out g hg).2 hs3) (HX.out _ (Nat.le_trans hsz hs3)) e4 S3.out)
             have G4 := Lib.hid ((HG.out.below E3.out).below E4.out)
             have B4 := Lib.hid ((HB.out.trans (E3.out.mono hsz)).trans (E4.out.mono (Nat.le_trans hsz hs3)))
             clear G3 hGr3)
          | (at_builtin; rw [← e4]; refine wpList_append_X w4 rfl (.tmp 30) (.tmp 38) 37 rfl 29 zRow 1 24 Try.underlying37 (by kernel_rfl) rfl (by omega) w.heap.size (.slice A' m c') m _ G4.out (some ⟨w3.heap.size, 0, none⟩) 1 1 _ rfl T4.out hs4 (by unfold maxLen; omega) (by omega) rfl rfl ?_
             intro A5 c5 w5 G5 hGr5
             have G5h := Lib.hid G5
             have B5 := Lib.hid (B4.out.trans (hGr5.below hs4 (fun g hg => (HOW.out g hg).1)))
             clear G5 hGr5))
        go_roundw
        case rel => exact ⟨j + 1, m + 1, A5, c5, by omega, by go_num, rfl, by omega, Lib.hid (by rw [HV.out, List.map_append]; exact G5h.out), B5⟩
        case measure => simp [intOf]; omega
      all_goals
        have HV := Lib.hid (show restR (rows.take (j + 1)) = restR (rows.take j) by rw [HTJ.out, HQ.out, rest1_cons, HI.out]; simp)
        go_wp2_with fail
        go_roundw
        case rel => exact ⟨j + 1, m, A', c', by omega, by go_num, rfl, by omega, Lib.hid (by rw [HV.out]; exact HG.out), HB⟩
        case measure => simp [intOf]; omega
    · have hje : j = rows.length := by omega
      have HLE := Lib.hid (show rows.take j = rows by rw [hje, List.take_length])
      clear hje
      go_wp2_with fail
      go_ret
      have hG := HG.out
      rw [HLE.out] at hG
      obtain ⟨A5, c5, e5, hs5⟩ := hG.sl HX.out
      have hl5 := hG.1
      obtain ⟨rfl, rfl⟩ : A' = A5 ∧ c' = c5 := by simpa using e5
      exact ⟨A', c', ret_sl (by rw [← hl5]; simp), hs5, HB.out⟩

set_option maxRecDepth 20000 in
theorem specInto (X : Nat → Prop) (M : Nat) (p : GNode) (A0 : Option Addr) (c0 : Nat) (rows : List (List GNode)) (A : Option Addr) (c : Nat) (w : World) (hX : ∀ b, w.heap.size ≤ b → X b) (hr : rows.length ≤ 1048576) (hn : ∀ r ∈ rows, 0 < r.length ∧ r.length + M ≤ 1099511627776) (hp : p.kids.length ≤ M) (hs : Sl w (Lx X w) 1 A c (rows.map rowD)) :
    Calls Try.prog 172 #[.slice A rows.length c, .agg #[.int .i64 p.op, .int .i64 p.n, .string p.s, .string p.t, .slice A0 p.kids.length c0]] w (RTo X (intoR p rows) w) := by
  have HX := Lib.hid hX
  have HS := Lib.hid hs
  have HN := Lib.hid hn
  have HT := Lib.hid (fun (j : Nat) (h : j < rows.length) => intoR_take (p := p) h)
  have HR := Lib.hid (fun (b off n c : Nat) (hn : n < c) (w : World) => run_tail (P := Try.prog) 29 49 5 Try.underlying29 (by kernel_rfl) b off n c hn w)
  obtain ⟨w0, e0⟩ : ∃ w0, w0 = (w.alloc (.cells #[.int .i64 p.op, .int .i64 p.n, .string p.s, .string p.t, .slice A0 p.kids.length c0] 49)).alloc (.cells #[] 29) := ⟨_, rfl⟩
  have E0 := Lib.hid (show Below w.heap.size w w0 by rw [e0]; exact ((Below.refl _ _).alloc (Nat.le_refl _) _).alloc (by simp) _)
  have P0 := Lib.hid (show Row w0 w.heap.size 49 #[.int .i64 p.op, .int .i64 p.n, .string p.s, .string p.t, .slice A0 p.kids.length c0] by rw [e0]; exact (Row.new' _ _ _ rfl).alloc _)
  have G0 := Lib.hid (show Grx X w0 (w.heap.size + 1) 29 1 (.slice (some ⟨w.heap.size + 1, 0, none⟩) 0 0) 0 [] from Grx.made (by rw [e0]; exact Row.new' _ _ _ (by simp)) (Nat.le_refl _))
  have hs0 : w.heap.size + 1 ≤ w0.heap.size := by rw [e0]; simp
  have hrl : rows.length ≤ 9223372036854775807 := by omega
  clear hX hs hn
  go_enter Try.func172, Try.ntmps172
  go_wp2_with fail
  rw [← e0]
  clear e0
  go_loopw [5, 6] (fun v i wr => ∃ (j m : Nat) (A : Option Addr) (c : Nat), j ≤ rows.length ∧ i = .int .i64 j ∧ v = .slice A m c ∧ m ≤ j ∧ Hid (Grx X wr (w.heap.size + 1) 29 1 (.slice A m c) m ((intoR p (rows.take j)).map rowD)) ∧ Hid (Row wr w.heap.size 49 #[.int .i64 p.op, .int .i64 p.n, .string p.s, .string p.t, .slice A0 p.kids.length c0]) ∧ w.heap.size + 1 ≤ wr.heap.size ∧ Hid (Below w.heap.size w wr)) (fun _ i _ => rows.length - (intOf i).toNat)
  case atStart => exact ⟨0, 0, _, _, by omega, by go_num, rfl, by omega, G0, P0, hs0, E0⟩
  case round =>
    clear G0 P0 hs0 E0
    obtain ⟨j, m, A', c', hj, rfl, rfl, hm, HG, HP, hz1, HB⟩ := hrel
    have hsz := HB.out.size
    by_cases hlt : j < rows.length
    · obtain ⟨b, off, A1, c1, rfl, hSb, g0, hs1⟩ := rowD_elem (HS.out.stay HB.out) j hlt
      have hnj := HN.out _ (List.getElem_mem hlt)
      obtain ⟨q, t, hqt⟩ := List.exists_cons_of_length_pos hnj.1
      have HTJ := Lib.hid (HT.out j hlt)
      rw [hqt] at g0 hs1 hnj
      rw [List.length_cons] at g0 hnj
      have htM : t.length + M ≤ 1099511627776 := by omega
      obtain ⟨b1, off1, A2, c2, rfl, hSb1, hlc, hcm, q0, q1, q2, q3, q4, hat, -, -⟩ := row_head hs1
      obtain ⟨wb, eb⟩ : ∃ wb, wb = wr.alloc (.cells #[.int .i64 q.op, .int .i64 q.n, .string q.s, .string q.t, .slice A2 q.kids.length c2] 49) := ⟨_, rfl⟩
      have EB := Lib.hid (show Below wr.heap.size wr wb by rw [eb]; exact (Below.refl _ _).alloc (Nat.le_refl _) _)
      have QB := Lib.hid (show Row wb wr.heap.size 49 #[.int .i64 q.op, .int .i64 q.n, .string q.s, .string q.t, .slice A2 q.kids.length c2] by rw [eb]; exact Row.new' _ _ _ rfl)
      have HBb := Lib.hid (HB.out.trans (EB.out.mono hsz))
      have HGb := Lib.hid (HG.out.below EB.out)
      have HPb := Lib.hid (HP.out.below EB.out (by omega))
      have hsb := HBb.out.size
      have hzb := Nat.le_trans hz1 EB.out.size
      have HOW := Lib.hid (fun g (hg : (Value.slice A' m c').ownBlock = some g) => HGb.out.own g hg)
      have HTL := Lib.hid ((rowTail hs1).keep (w' := wb) (S' := fun b => b < wb.heap.size ∧ Xo (Value.slice A' m c') X b ∧ b < w.heap.size) fun b hb => ⟨⟨Nat.lt_of_lt_of_le hb.1 hsb, ⟨fun e => by have := (HOW.out b e).1; have := hb.1; omega, hb.2⟩, hb.1⟩, EB.out.block b (Nat.lt_of_lt_of_le hb.1 hsz)⟩)
      have HKL := Lib.hid (hat.2.2.2.2.keep (w' := wb) (S' := fun b => b < wb.heap.size ∧ Xo (Value.slice A' m c') X b ∧ b < w.heap.size) fun b hb => ⟨⟨Nat.lt_of_lt_of_le hb.1 hsb, ⟨fun e => by have := (HOW.out b e).1; have := hb.1; omega, hb.2⟩, hb.1⟩, EB.out.block b (Nat.lt_of_lt_of_le hb.1 hsz)⟩)
      have HXb := Lib.hid (Xo.mk (X := X) (fun g hg => (HOW.out g hg).2) (fun b hb => HX.out b (Nat.le_trans hsb hb)))
      have g0b := (EB.out.cell (p := ⟨b, off + j, none⟩) (Nat.lt_of_lt_of_le hSb.1 hsz)).trans g0
      have hcq := fun i => QB.out.cell i
      have hcp := fun i => HPb.out.cell i
      have htl := HR.out b1 off1 t.length c1 (by omega)
      have HQ := Lib.hid hqt
      clear hqt hat hs1 hnj HG HP
      by_cases hany : isAnyB q = true
      · have HV := Lib.hid (show intoR p (rows.take (j + 1)) = intoR p (rows.take j) ++ [List.replicate p.kids.length anyN ++ t] by rw [HTJ.out, HQ.out, into1_cons, if_pos hany]; simp)
        have h20 : (q.op == 20) = false := by
          cases h : (q.op == 20)
          · rfl
          · rw [isAny_con h] at hany; cases hany
        have h19 : (q.op == 19) = false := by
          cases h : (q.op == 19)
          · rfl
          · rw [isAny_num h] at hany; cases hany
        have HLL := Lib.hid (show (List.replicate p.kids.length anyN ++ t).length = p.kids.length + t.length by simp)
        clear hany
        go_wp2_with fail
        rw [← eb]
        clear eb q0 q1 q2 q3 q4 g0
        go_region_law (first
          | (rw [← e8]
             refine step_append_X w8 rfl (.tmp 24) (.tmp 34) 37 rfl 29 zRow 1 24 Try.underlying37 (by kernel_rfl) rfl (by omega) (w.heap.size + 1) (.slice A' m c') m _ G8.out (some ⟨w7.heap.size, 0, none⟩) 1 1 _ rfl T8.out hs8 (by unfold maxLen; omega) (by omega) rfl rfl ?_
             intro A4 c4 w4 G4 hGr4
             have G4h := Lib.hid G4
             have B4 := Lib.hid (HB8.out.trans (hGr4.below (by omega) (fun g hg => (by have := (G8.out.own g hg).1; omega))))
             have P4 := Lib.hid (hGr4.row P8.out (fun e => by have := (G8.out.own _ e).1; omega))
             have hz4 := Nat.le_trans hs8 hGr4.size
             clear G4 hGr4)
          | (go_simp
             go_at_call 175
             go_must (
               refine (specAny (Xo (Value.slice A' m c') X) p.kids.length t (tailA b1 off1 5 c1) (c1 - 1) wb.drew HXb.out (by omega) (HTL.out.keep fun b hb => ⟨⟨hb.1, hb.2.1⟩, rfl⟩)).mono ?_
               rintro e w7 ⟨A7, c7, rfl, hs7, hb7⟩
               have E7 := Lib.hid (((Below.refl wb.heap.size wb).drew).trans hb7)
               have G7 := Lib.hid (HGb.out.below E7.out)
               have HB7 := Lib.hid (HBb.out.trans (E7.out.mono hsb))
               have hs77 := HB7.out.size
               have P7 := Lib.hid (HPb.out.below E7.out (by omega))
               obtain ⟨w8, e8⟩ : ∃ w8, w8 = w7.alloc (.cells #[.slice A7 (p.kids.length + t.length) c7] 29) := ⟨_, rfl⟩
               have E8 := Lib.hid (show Below w7.heap.size w7 w8 by rw [e8]; exact (Below.refl _ _).alloc (Nat.le_refl _) _)
               have hs8 := Nat.le_trans (Nat.le_trans hzb E7.out.size) E8.out.size
               have e8x : w8 = w7.alloc (.cells #[.slice A7 (List.replicate p.kids.length anyN ++ t).length c7] 29) := by rw [e8, HLL.out]
               have T8 := Lib.hid (oneRow (X := X) (Value.slice A' m c') (fun g hg => (G7.out.own g hg).2) (HX.out _ hs77) e8x hs7)
               have G8 := Lib.hid (G7.out.below E8.out)
               have P8 := Lib.hid (P7.out.below E8.out (by have := E7.out.size; omega))
               have HB8 := Lib.hid (HB7.out.trans (E8.out.mono hs77))
               clear hs7 hb7)))
        all_goals
          go_wp2_with fail
          go_roundw
          case rel => exact ⟨j + 1, m + 1, A4, c4, by omega, by go_num, rfl, by omega, Lib.hid (by rw [HV.out, List.map_append]; exact G4h.out), P4, hz4, B4⟩
          case measure => simp [intOf]; omega
      · have hc : (q.op == 20) = true ∨ ((q.op == 20) = false ∧ (q.op == 19) = true) := by
          cases h1 : (q.op == 20)
          · cases h2 : (q.op == 19)
            · exact absurd (isAny_ne h1 h2) hany
            · exact .inr ⟨rfl, rfl⟩
          · exact .inl rfl
        have hcps := fun i => HPb.out.cell i
        have hcqs := fun i => QB.out.cell i
        rw [eb] at hcps hcqs
        cases hal : alikeB q p
        · have HV := Lib.hid (show intoR p (rows.take (j + 1)) = intoR p (rows.take j) by rw [HTJ.out, HQ.out, into1_cons, if_neg hany, hal]; simp)
          clear hany
          rcases hc with h20 | ⟨h20, h19⟩
          all_goals
            cases a1 : (q.op == p.op)
            case' true => cases a2 : (q.s.toList == p.s.toList)
            case' true.true => cases a3 : (q.n == p.n)
            case' true.true.true => have a4 : (q.kids.length == p.kids.length) = false := by rw [alikeB_def, a1, a2, a3] at hal; simpa using hal
            all_goals
              clear hal
              go_wp2_with fail
              rw [← eb]
              go_roundw
              case rel => exact ⟨j + 1, m, A', c', by omega, by go_num, rfl, by omega, Lib.hid (by rw [HV.out]; exact HGb.out), HPb, hzb, HBb⟩
              case measure => simp [intOf]; omega
        · have HV := Lib.hid (show intoR p (rows.take (j + 1)) = intoR p (rows.take j) ++ [q.kids ++ t] by rw [HTJ.out, HQ.out, into1_cons, if_neg hany, if_pos hal]; simp)
          clear hany
          rw [alikeB_def] at hal
          simp only [Bool.and_eq_true] at hal
          obtain ⟨⟨⟨a1, a2⟩, a3⟩, a4⟩ := hal
          have hkl : q.kids.length ≤ M := by rw [beq_iff_eq] at a4; omega
          have HLL := Lib.hid (show (q.kids ++ t).length = q.kids.length + t.length by simp)
          have hwb : wb.heap.size = wr.heap.size + 1 := by rw [eb]; simp
          obtain ⟨w1, e1⟩ : ∃ w1, w1 = wb.alloc (.cells #[] 49) := ⟨_, rfl⟩
          have E1 := Lib.hid (show Below wb.heap.size wb w1 by rw [e1]; exact (Below.refl _ _).alloc (Nat.le_refl _) _)
          have hs1 := E1.out.size
          have G1 := Lib.hid (show Grx (Xo (Value.slice A' m c') X) w1 wb.heap.size 49 5 (.slice (some ⟨wr.heap.size + 1, 0, none⟩) 0 0) 0 [] from Grx.made (by rw [e1]; exact Row.new' _ _ _ hwb.symm) (by omega))
          have K1 := Lib.hid (show Sl w1 (fun b => b < w1.heap.size ∧ (Value.slice (some ⟨wr.heap.size + 1, 0, none⟩) 0 0).ownBlock ≠ some b ∧ Xo (Value.slice A' m c') X b) 5 A2 c2 (q.kids.map GNode.toD) from
            HKL.out.keep fun b hb => ⟨⟨Nat.lt_of_lt_of_le hb.1 hs1, fun e => by have := hwb; simp [Value.ownBlock] at e; have := hb.1; omega, hb.2.1⟩, E1.out.block b hb.1⟩)
          have hqm : q.kids.length ≤ 9223372036854775807 := by omega
          have HWB := Lib.hid hwb
          have hcq1 := fun i => (QB.out.below E1.out QB.out.lt).cell i
          rw [e1, eb] at hcq1
          clear hwb
          rcases hc with h20 | ⟨h20, h19⟩
          all_goals
            go_wp2_with (first
              | (at_builtin; rw [← eb, ← e1]; refine wpList_append_X w1 rfl (.tmp 67) (.tmp 69) 29 rfl 49 zNode 5 72 Try.underlying29 (by kernel_rfl) rfl (by omega) wb.heap.size (.slice (some ⟨wr.heap.size + 1, 0, none⟩) 0 0) 0 _ G1.out A2 c2 q.kids.length _ (by simp) K1.out hs1 (by unfold maxLen; omega) (by omega) rfl rfl ?_
                 intro A3 c3 w3 G3 hGr3
                 rw [Nat.zero_add] at G3 hGr3 ⊢
                 have E3 := Lib.hid (show Below wb.heap.size wb w3 from E1.out.trans (hGr3.below hs1 (fun g hg => by have := HWB.out; simp [Value.ownBlock] at hg; omega)))
                 have hs3 := E3.out.size
                 have G3h := Lib.hid (show Grx (Xo (Value.slice A' m c') X) w3 wb.heap.size 49 5 (.slice A3 q.kids.length c3) q.kids.length (q.kids.map GNode.toD) from G3)
                 have g03 := (E3.out.cell (p := ⟨b, off + j, none⟩) (Nat.lt_of_lt_of_le hSb.1 hsb)).trans g0b
                 have T3 := Lib.hid (show Sl w3 (fun b => b < w3.heap.size ∧ (Value.slice A3 q.kids.length c3).ownBlock ≠ some b ∧ Xo (Value.slice A' m c') X b) 5 (tailA b1 off1 5 c1) (c1 - 1) (t.map GNode.toD) from
                   HTL.out.keep fun b hb => ⟨⟨Nat.lt_of_lt_of_le hb.1 hs3, fun e => by have := (G3h.out.own b e).1; have := hb.1; omega, hb.2.1⟩, E3.out.block b hb.1⟩)
                 clear G3 hGr3)
              | (at_builtin; refine wpList_append_X w3 rfl (.tmp 72) (.tmp 77) 29 rfl 49 zNode 5 72 Try.underlying29 (by kernel_rfl) rfl (by omega) wb.heap.size (.slice A3 q.kids.length c3) q.kids.length _ G3h.out (tailA b1 off1 5 c1) (c1 - 1) t.length _ (by simp) T3.out hs3 (by unfold maxLen; omega) (by omega) rfl rfl ?_
                 intro A6 c6 w6 G6 hGr6
                 have E6 := Lib.hid (show Below wb.heap.size wb w6 from E3.out.trans (hGr6.below hs3 (fun g hg => (G3h.out.own g hg).1)))
                 have hs6 := E6.out.size
                 have S6 := Lib.hid (show Sl w6 (fun b => b < w6.heap.size ∧ (Value.slice A' m c').ownBlock ≠ some b ∧ X b) 5 A6 c6 ((q.kids ++ t).map GNode.toD) from by
                   rw [← List.map_append] at G6
                   obtain ⟨A4, c4, e4, h4⟩ := G6.sl HXb.out
                   obtain ⟨rfl, rfl⟩ : A6 = A4 ∧ c6 = c4 := by simpa using e4
                   exact h4)
                 obtain ⟨w8, e8⟩ : ∃ w8, w8 = w6.alloc (.cells #[.slice A6 (q.kids.length + t.length) c6] 29) := ⟨_, rfl⟩
                 have E8 := Lib.hid (show Below w6.heap.size w6 w8 by rw [e8]; exact (Below.refl _ _).alloc (Nat.le_refl _) _)
                 have hs8 := Nat.le_trans (Nat.le_trans hzb hs6) E8.out.size
                 have e8x : w8 = w6.alloc (.cells #[.slice A6 (q.kids ++ t).length c6] 29) := by rw [e8, HLL.out]
                 have T8 := Lib.hid (oneRow (X := X) (r := q.kids ++ t) (w' := w8) (T := 29) (Value.slice A' m c') (fun g hg => Nat.lt_of_lt_of_le (HOW.out g hg).2 hs6) (HX.out _ (Nat.le_trans hsb hs6)) e8x S6.out)
                 have G8 := Lib.hid ((HGb.out.below E6.out).below E8.out)
                 have P8 := Lib.hid ((HPb.out.below E6.out (by omega)).below E8.out (by omega))
                 have HB8 := Lib.hid ((HBb.out.trans (E6.out.mono hsb)).trans (E8.out.mono (Nat.le_trans hsb hs6)))
                 clear G6 hGr6)
              | (at_builtin; rw [← e8]; refine wpList_append_X w8 rfl (.tmp 71) (.tmp 79) 37 rfl 29 zRow 1 24 Try.underlying37 (by kernel_rfl) rfl (by omega) (w.heap.size + 1) (.slice A' m c') m _ G8.out (some ⟨w6.heap.size, 0, none⟩) 1 1 _ rfl T8.out hs8 (by unfold maxLen; omega) (by omega) rfl rfl ?_
                 intro A5 c5 w5 G5 hGr5
                 have G5h := Lib.hid G5
                 have B5 := Lib.hid (HB8.out.trans (hGr5.below (by omega) (fun g hg => (by have := (G8.out.own g hg).1; omega))))
                 have P5 := Lib.hid (hGr5.row P8.out (fun e => by have := (G8.out.own _ e).1; omega))
                 have hz5 := Nat.le_trans hs8 hGr5.size
                 clear G5 hGr5))
            go_roundw
            case rel => exact ⟨j + 1, m + 1, A5, c5, by omega, by go_num, rfl, by omega, Lib.hid (by rw [HV.out, List.map_append]; exact G5h.out), P5, hz5, B5⟩
            case measure => simp [intOf]; omega
    · have hje : j = rows.length := by omega
      have HLE := Lib.hid (show rows.take j = rows by rw [hje, List.take_length])
      clear hje
      go_wp2_with fail
      go_ret
      have hG := HG.out
      rw [HLE.out] at hG
      obtain ⟨A5, c5, e5, hs5⟩ := hG.sl (fun b hb => HX.out b (by omega))
      have hl5 := hG.1
      obtain ⟨rfl, rfl⟩ : A' = A5 ∧ c' = c5 := by simpa using e5
      exact ⟨A', c', ret_sl (by rw [← hl5]; simp), hs5, HB.out⟩
end Go.Proofs.Ytgbcdfeflgnogaa
