/- Several texts of this claim in one: CoverS FRow CoverW CoverV. Conditions: none but bounds on sizes. -/
import Derived.Test.YtgbcdfeflgnogaaGreatMg8
import Derived.Test.YtgbcdfeflgnogaaGreatRows
import Derived.Test.YtgbcdfeflgnogaaGreatMg0
import Derived.Test.YtgbcdfeflgnogaaGreatMg2
import Derived.Test.YtgbcdfeflgnogaaGreatMg7
import Derived.Test.YtgbcdfeflgnogaaGreatMg1
import Derived.Lib.Hide
import Derived.Test.YtgbcdfeflgnogaaGreatMg5
/- Coverage: the rows that fit, and the rest of rows, in the reference. Conditions: the sizes are bounded. -/
namespace Go.Proofs.YtgbcdfeflgnogaaGreat
open Go.RowKit
set_option linter.unusedVariables false
set_option linter.unusedSimpArgs false
set_option maxHeartbeats 1000000


set_option maxRecDepth 20000 in
theorem specRest (X : Nat → Prop) (rows : List (List GNode)) (A : Option Addr) (c : Nat) (w : World) (hX : ∀ b, w.heap.size ≤ b → X b) (hr : rows.length ≤ 1048576) (hn : ∀ r ∈ rows, 0 < r.length ∧ r.length ≤ 1099511627776) (hs : Sl w (Lx X w) 1 A c (rows.map rowD)) :
    Calls Tryz.prog 88 #[.slice A rows.length c] w (RTo X (restR rows) w) := by
  have HX := Lib.hid hX
  have HS := Lib.hid hs
  have HN := Lib.hid hn
  have HT := Lib.hid (fun (j : Nat) (h : j < rows.length) => restR_take h)
  have HR := Lib.hid (fun (b off n c : Nat) (hn : n < c) (w : World) => run_tail (P := Tryz.prog) 31 33 5 Tryz.underlying31 (by kernel_rfl) b off n c hn w)
  obtain ⟨w0, e0⟩ : ∃ w0, w0 = w.alloc (.cells #[] 31) := ⟨_, rfl⟩
  have E0 := Lib.hid (show Below w.heap.size w w0 by rw [e0]; exact (Below.refl _ _).alloc (Nat.le_refl _) _)
  have G0 := Lib.hid (show Grx X w0 w.heap.size 31 1 (.slice (some ⟨w.heap.size, 0, none⟩) 0 0) 0 [] from Grx.made (by rw [e0]; exact Row.new' _ _ _ rfl) (Nat.le_refl _))
  have hrl : rows.length ≤ 9223372036854775807 := by omega
  clear hX hs hn
  go_enter Tryz.func88, Tryz.ntmps88
  go_wp2_with fail
  rw [← e0]
  clear e0
  go_loopw [3, 4] (fun v i wr => ∃ (j m : Nat) (A : Option Addr) (c : Nat), j ≤ rows.length ∧ i = .int .i64 j ∧ v = .slice A m c ∧ m ≤ j ∧ Hid (Grx X wr w.heap.size 31 1 (.slice A m c) m ((restR (rows.take j)).map rowD)) ∧ Hid (Below w.heap.size w wr)) (fun _ i _ => rows.length - (intOf i).toNat)
  case atStart => exact ⟨0, 0, _, _, by omega, by go_num, rfl, by omega, G0, E0⟩
  case round =>
    clear G0 E0
    obtain ⟨j, m, A', c', hj, rfl, rfl, hm, HG, HB⟩ := hrel
    have hsz := HB.out.size
    have HOW := Lib.hid (fun g (hg : (Value.slice A' m c').ownBlock = some g) => HG.out.own g hg)
    by_cases hlt : j < rows.length
    · obtain ⟨b, off, A1, c1, rfl, hSb, g0, hs1⟩ := rowD_elem (HS.out.stay HB.out) j hlt
      have hnj := HN.out _ (List.getElem_mem hlt)
      obtain ⟨q, t, hqt⟩ := List.exists_cons_of_length_pos hnj.1
      have HTJ := Lib.hid (HT.out j hlt)
      rw [hqt] at g0 hs1 hnj
      rw [List.length_cons] at g0 hnj
      have htM : t.length ≤ 1099511627776 := by omega
      obtain ⟨b1, off1, A2, c2, rfl, hSb1, hlc, hcm, q0, q1, q2, q3, q4, hat, -, -⟩ := row_head hs1
      have HTL := Lib.hid (rowTail hs1)
      have htl := HR.out b1 off1 t.length c1 (by omega)
      have HQ := Lib.hid hqt
      clear hqt hat hs1 hnj q1 q2 q3 q4
      cases h20 : (q.op == 20)
      case' true =>
        have HI := Lib.hid (isAny_con h20)
        have n20 : (q.op != 20) = false := by simp [bne, h20]
      case' false =>
        have n20 : (q.op != 20) = true := by simp [bne, h20]
        cases h19 : (q.op == 19)
        case' true =>
          have HI := Lib.hid (isAny_num h19)
          have n19 : (q.op != 19) = false := by simp [bne, h19]
      case' false.false =>
        have HI := Lib.hid (isAny_ne h20 h19)
        have n19 : (q.op != 19) = true := by simp [bne, h19]
        have HV := Lib.hid (show restR (rows.take (j + 1)) = restR (rows.take j) ++ [t] by rw [HTJ.out, HQ.out, rest1_cons, HI.out]; simp)
        obtain ⟨w1, e1⟩ : ∃ w1, w1 = wr.alloc (.cells #[] 33) := ⟨_, rfl⟩
        have E1 := Lib.hid (show Below wr.heap.size wr w1 by rw [e1]; exact (Below.refl _ _).alloc (Nat.le_refl _) _)
        have hs1 := E1.out.size
        have hs01 := Nat.le_trans hsz hs1
        have g01 := (E1.out.cell (p := ⟨b, off + j, none⟩) (Nat.lt_of_lt_of_le hSb.1 hsz)).trans g0
        rw [e1] at g01
        have G1 := Lib.hid (show Grx (Xo (Value.slice A' m c') X) w1 wr.heap.size 33 5 (.slice (some ⟨wr.heap.size, 0, none⟩) 0 0) 0 [] from Grx.made (by rw [e1]; exact Row.new' _ _ _ rfl) (Nat.le_refl _))
        have XO := Lib.hid (Xo.mk (X := X) (fun g hg => (HOW.out g hg).2) (fun b hb => HX.out b (Nat.le_trans hsz hb)))
        have T1 := Lib.hid (show Sl w1 (fun b => b < w1.heap.size ∧ (Value.slice (some ⟨wr.heap.size, 0, none⟩) 0 0).ownBlock ≠ some b ∧ Xo (Value.slice A' m c') X b) 5 (tailA b1 off1 5 c1) (c1 - 1) (t.map GNode.toD) from
          HTL.out.keep fun b hb => ⟨⟨Nat.lt_of_lt_of_le hb.1 hs01, fun e => by simp [Value.ownBlock] at e; have := hb.1; omega, fun e => by have := (HOW.out b e).1; have := hb.1; omega, hb.2⟩, E1.out.block b (Nat.lt_of_lt_of_le hb.1 hsz)⟩)
        go_wp2_with (first
          | (at_builtin; rw [← e1]; refine wpList_append_X w1 rfl (.tmp 31) (.tmp 36) 31 rfl 33 zNode 5 72 Tryz.underlying31 (by kernel_rfl) rfl (by omega) wr.heap.size (.slice (some ⟨wr.heap.size, 0, none⟩) 0 0) 0 _ G1.out (tailA b1 off1 5 c1) (c1 - 1) t.length _ (by simp) T1.out hs1 (by unfold maxLen; omega) (by omega) rfl rfl ?_
             intro A3 c3 w3 G3 hGr3
             rw [Nat.zero_add] at G3 ⊢
             have E3 := Lib.hid (show Below wr.heap.size wr w3 from E1.out.trans (hGr3.below hs1 (fun g hg => by simp [Value.ownBlock] at hg; omega)))
             have hs3 := E3.out.size
             have S3 := Lib.hid (show Sl w3 (fun b => b < w3.heap.size ∧ (Value.slice A' m c').ownBlock ≠ some b ∧ X b) 5 A3 c3 (t.map GNode.toD) from by
               obtain ⟨A4, c4, e4, h4⟩ := G3.sl XO.out
               obtain ⟨rfl, rfl⟩ : A3 = A4 ∧ c3 = c4 := by simpa using e4
               exact h4)
             obtain ⟨w4, e4⟩ : ∃ w4, w4 = w3.alloc (.cells #[.slice A3 t.length c3] 31) := ⟨_, rfl⟩
             have E4 := Lib.hid (show Below w3.heap.size w3 w4 by rw [e4]; exact (Below.refl _ _).alloc (Nat.le_refl _) _)
             have hs4 := Nat.le_trans (Nat.le_trans hsz hs3) E4.out.size
             have T4 := Lib.hid (oneRow (X := X) (Value.slice A' m c') (fun g hg => Nat.lt_of_lt_of_le (HOW.out g hg).2 hs3) (HX.out _ (Nat.le_trans hsz hs3)) e4 S3.out)
             have G4 := Lib.hid ((HG.out.below E3.out).below E4.out)
             have B4 := Lib.hid ((HB.out.trans (E3.out.mono hsz)).trans (E4.out.mono (Nat.le_trans hsz hs3)))
             clear G3 hGr3)
          | (at_builtin; rw [← e4]; refine wpList_append_X w4 rfl (.tmp 30) (.tmp 38) 78 rfl 31 zRow 1 24 Tryz.underlying78 (by kernel_rfl) rfl (by omega) w.heap.size (.slice A' m c') m _ G4.out (some ⟨w3.heap.size, 0, none⟩) 1 1 _ rfl T4.out hs4 (by unfold maxLen; omega) (by omega) rfl rfl ?_
             intro A5 c5 w5 G5 hGr5
             have G5h := Lib.hid G5
             have B5 := Lib.hid (B4.out.trans (hGr5.below hs4 (fun g hg => (HOW.out g hg).1)))
             clear G5 hGr5))
        go_roundw
        case rel => exact ⟨j + 1, m + 1, A5, c5, by omega, by go_num, rfl, by omega, Lib.hid (by rw [HV.out, List.map_append]; exact G5h.out), B5⟩
        case measure => simp [intOf]; omega
      all_goals
        have HV := Lib.hid (show restR (rows.take (j + 1)) = restR (rows.take j) by rw [HTJ.out, HQ.out, rest1_cons, HI.out]; simp)
        go_wp2_with fail
        go_roundw
        case rel => exact ⟨j + 1, m, A', c', by omega, by go_num, rfl, by omega, Lib.hid (by rw [HV.out]; exact HG.out), HB⟩
        case measure => simp [intOf]; omega
    · have hje : j = rows.length := by omega
      have HLE := Lib.hid (show rows.take j = rows by rw [hje, List.take_length])
      clear hje
      go_wp2_with fail
      go_ret
      have hG := HG.out
      rw [HLE.out] at hG
      obtain ⟨A5, c5, e5, hs5⟩ := hG.sl HX.out
      have hl5 := hG.1
      obtain ⟨rfl, rfl⟩ : A' = A5 ∧ c' = c5 := by simpa using e5
      exact ⟨A', c', ret_sl (by rw [← hl5]; simp), hs5, HB.out⟩

set_option maxRecDepth 20000 in
theorem specInto (X : Nat → Prop) (M : Nat) (p : GNode) (A0 : Option Addr) (c0 : Nat) (rows : List (List GNode)) (A : Option Addr) (c : Nat) (w : World) (hX : ∀ b, w.heap.size ≤ b → X b) (hr : rows.length ≤ 1048576) (hn : ∀ r ∈ rows, 0 < r.length ∧ r.length + M ≤ 1099511627776) (hp : p.kids.length ≤ M) (hs : Sl w (Lx X w) 1 A c (rows.map rowD)) :
    Calls Tryz.prog 86 #[.slice A rows.length c, .agg #[.int .i64 p.op, .int .i64 p.n, .string p.s, .string p.t, .slice A0 p.kids.length c0]] w (RTo X (intoR p rows) w) := by
  have HX := Lib.hid hX
  have HS := Lib.hid hs
  have HN := Lib.hid hn
  have HT := Lib.hid (fun (j : Nat) (h : j < rows.length) => intoR_take (p := p) h)
  have HR := Lib.hid (fun (b off n c : Nat) (hn : n < c) (w : World) => run_tail (P := Tryz.prog) 31 33 5 Tryz.underlying31 (by kernel_rfl) b off n c hn w)
  obtain ⟨w0, e0⟩ : ∃ w0, w0 = (w.alloc (.cells #[.int .i64 p.op, .int .i64 p.n, .string p.s, .string p.t, .slice A0 p.kids.length c0] 33)).alloc (.cells #[] 31) := ⟨_, rfl⟩
  have E0 := Lib.hid (show Below w.heap.size w w0 by rw [e0]; exact ((Below.refl _ _).alloc (Nat.le_refl _) _).alloc (by simp) _)
  have P0 := Lib.hid (show Row w0 w.heap.size 33 #[.int .i64 p.op, .int .i64 p.n, .string p.s, .string p.t, .slice A0 p.kids.length c0] by rw [e0]; exact (Row.new' _ _ _ rfl).alloc _)
  have G0 := Lib.hid (show Grx X w0 (w.heap.size + 1) 31 1 (.slice (some ⟨w.heap.size + 1, 0, none⟩) 0 0) 0 [] from Grx.made (by rw [e0]; exact Row.new' _ _ _ (by simp)) (Nat.le_refl _))
  have hs0 : w.heap.size + 1 ≤ w0.heap.size := by rw [e0]; simp
  have hrl : rows.length ≤ 9223372036854775807 := by omega
  clear hX hs hn
  go_enter Tryz.func86, Tryz.ntmps86
  go_wp2_with fail
  rw [← e0]
  clear e0
  go_loopw [5, 6] (fun v i wr => ∃ (j m : Nat) (A : Option Addr) (c : Nat), j ≤ rows.length ∧ i = .int .i64 j ∧ v = .slice A m c ∧ m ≤ j ∧ Hid (Grx X wr (w.heap.size + 1) 31 1 (.slice A m c) m ((intoR p (rows.take j)).map rowD)) ∧ Hid (Row wr w.heap.size 33 #[.int .i64 p.op, .int .i64 p.n, .string p.s, .string p.t, .slice A0 p.kids.length c0]) ∧ w.heap.size + 1 ≤ wr.heap.size ∧ Hid (Below w.heap.size w wr)) (fun _ i _ => rows.length - (intOf i).toNat)
  case atStart => exact ⟨0, 0, _, _, by omega, by go_num, rfl, by omega, G0, P0, hs0, E0⟩
  case round =>
    clear G0 P0 hs0 E0
    obtain ⟨j, m, A', c', hj, rfl, rfl, hm, HG, HP, hz1, HB⟩ := hrel
    have hsz := HB.out.size
    by_cases hlt : j < rows.length
    · obtain ⟨b, off, A1, c1, rfl, hSb, g0, hs1⟩ := rowD_elem (HS.out.stay HB.out) j hlt
      have hnj := HN.out _ (List.getElem_mem hlt)
      obtain ⟨q, t, hqt⟩ := List.exists_cons_of_length_pos hnj.1
      have HTJ := Lib.hid (HT.out j hlt)
      rw [hqt] at g0 hs1 hnj
      rw [List.length_cons] at g0 hnj
      have htM : t.length + M ≤ 1099511627776 := by omega
      obtain ⟨b1, off1, A2, c2, rfl, hSb1, hlc, hcm, q0, q1, q2, q3, q4, hat, -, -⟩ := row_head hs1
      obtain ⟨wb, eb⟩ : ∃ wb, wb = wr.alloc (.cells #[.int .i64 q.op, .int .i64 q.n, .string q.s, .string q.t, .slice A2 q.kids.length c2] 33) := ⟨_, rfl⟩
      have EB := Lib.hid (show Below wr.heap.size wr wb by rw [eb]; exact (Below.refl _ _).alloc (Nat.le_refl _) _)
      have QB := Lib.hid (show Row wb wr.heap.size 33 #[.int .i64 q.op, .int .i64 q.n, .string q.s, .string q.t, .slice A2 q.kids.length c2] by rw [eb]; exact Row.new' _ _ _ rfl)
      have HBb := Lib.hid (HB.out.trans (EB.out.mono hsz))
      have HGb := Lib.hid (HG.out.below EB.out)
      have HPb := Lib.hid (HP.out.below EB.out (by omega))
      have hsb := HBb.out.size
      have hzb := Nat.le_trans hz1 EB.out.size
      have HOW := Lib.hid (fun g (hg : (Value.slice A' m c').ownBlock = some g) => HGb.out.own g hg)
      have HTL := Lib.hid ((rowTail hs1).keep (w' := wb) (S' := fun b => b < wb.heap.size ∧ Xo (Value.slice A' m c') X b ∧ b < w.heap.size) fun b hb => ⟨⟨Nat.lt_of_lt_of_le hb.1 hsb, ⟨fun e => by have := (HOW.out b e).1; have := hb.1; omega, hb.2⟩, hb.1⟩, EB.out.block b (Nat.lt_of_lt_of_le hb.1 hsz)⟩)
      have HKL := Lib.hid (hat.2.2.2.2.keep (w' := wb) (S' := fun b => b < wb.heap.size ∧ Xo (Value.slice A' m c') X b ∧ b < w.heap.size) fun b hb => ⟨⟨Nat.lt_of_lt_of_le hb.1 hsb, ⟨fun e => by have := (HOW.out b e).1; have := hb.1; omega, hb.2⟩, hb.1⟩, EB.out.block b (Nat.lt_of_lt_of_le hb.1 hsz)⟩)
      have HXb := Lib.hid (Xo.mk (X := X) (fun g hg => (HOW.out g hg).2) (fun b hb => HX.out b (Nat.le_trans hsb hb)))
      have g0b := (EB.out.cell (p := ⟨b, off + j, none⟩) (Nat.lt_of_lt_of_le hSb.1 hsz)).trans g0
      have hcq := fun i => QB.out.cell i
      have hcp := fun i => HPb.out.cell i
      have htl := HR.out b1 off1 t.length c1 (by omega)
      have HQ := Lib.hid hqt
      clear hqt hat hs1 hnj HG HP
      by_cases hany : isAnyB q = true
      · have HV := Lib.hid (show intoR p (rows.take (j + 1)) = intoR p (rows.take j) ++ [List.replicate p.kids.length anyN ++ t] by rw [HTJ.out, HQ.out, into1_cons, if_pos hany]; simp)
        have h20 : (q.op == 20) = false := by
          cases h : (q.op == 20)
          · rfl
          · rw [isAny_con h] at hany; cases hany
        have h19 : (q.op == 19) = false := by
          cases h : (q.op == 19)
          · rfl
          · rw [isAny_num h] at hany; cases hany
        have HLL := Lib.hid (show (List.replicate p.kids.length anyN ++ t).length = p.kids.length + t.length by simp)
        clear hany
        go_wp2_with fail
        rw [← eb]
        clear eb q0 q1 q2 q3 q4 g0
        go_region_law (first
          | (rw [← e8]
             refine step_append_X w8 rfl (.tmp 24) (.tmp 34) 78 rfl 31 zRow 1 24 Tryz.underlying78 (by kernel_rfl) rfl (by omega) (w.heap.size + 1) (.slice A' m c') m _ G8.out (some ⟨w7.heap.size, 0, none⟩) 1 1 _ rfl T8.out hs8 (by unfold maxLen; omega) (by omega) rfl rfl ?_
             intro A4 c4 w4 G4 hGr4
             have G4h := Lib.hid G4
             have B4 := Lib.hid (HB8.out.trans (hGr4.below (by omega) (fun g hg => (by have := (G8.out.own g hg).1; omega))))
             have P4 := Lib.hid (hGr4.row P8.out (fun e => by have := (G8.out.own _ e).1; omega))
             have hz4 := Nat.le_trans hs8 hGr4.size
             clear G4 hGr4)
          | (go_simp
             go_at_call 89
             go_must (
               refine (specAny (Xo (Value.slice A' m c') X) p.kids.length t (tailA b1 off1 5 c1) (c1 - 1) wb.drew HXb.out (by omega) (HTL.out.keep fun b hb => ⟨⟨hb.1, hb.2.1⟩, rfl⟩)).mono ?_
               rintro e w7 ⟨A7, c7, rfl, hs7, hb7⟩
               have E7 := Lib.hid (((Below.refl wb.heap.size wb).drew).trans hb7)
               have G7 := Lib.hid (HGb.out.below E7.out)
               have HB7 := Lib.hid (HBb.out.trans (E7.out.mono hsb))
               have hs77 := HB7.out.size
               have P7 := Lib.hid (HPb.out.below E7.out (by omega))
               obtain ⟨w8, e8⟩ : ∃ w8, w8 = w7.alloc (.cells #[.slice A7 (p.kids.length + t.length) c7] 31) := ⟨_, rfl⟩
               have E8 := Lib.hid (show Below w7.heap.size w7 w8 by rw [e8]; exact (Below.refl _ _).alloc (Nat.le_refl _) _)
               have hs8 := Nat.le_trans (Nat.le_trans hzb E7.out.size) E8.out.size
               have e8x : w8 = w7.alloc (.cells #[.slice A7 (List.replicate p.kids.length anyN ++ t).length c7] 31) := by rw [e8, HLL.out]
               have T8 := Lib.hid (oneRow (X := X) (Value.slice A' m c') (fun g hg => (G7.out.own g hg).2) (HX.out _ hs77) e8x hs7)
               have G8 := Lib.hid (G7.out.below E8.out)
               have P8 := Lib.hid (P7.out.below E8.out (by have := E7.out.size; omega))
               have HB8 := Lib.hid (HB7.out.trans (E8.out.mono hs77))
               clear hs7 hb7)))
        all_goals
          go_wp2_with fail
          go_roundw
          case rel => exact ⟨j + 1, m + 1, A4, c4, by omega, by go_num, rfl, by omega, Lib.hid (by rw [HV.out, List.map_append]; exact G4h.out), P4, hz4, B4⟩
          case measure => simp [intOf]; omega
      · have hc : (q.op == 20) = true ∨ ((q.op == 20) = false ∧ (q.op == 19) = true) := by
          cases h1 : (q.op == 20)
          · cases h2 : (q.op == 19)
            · exact absurd (isAny_ne h1 h2) hany
            · exact .inr ⟨rfl, rfl⟩
          · exact .inl rfl
        have hcps := fun i => HPb.out.cell i
        have hcqs := fun i => QB.out.cell i
        rw [eb] at hcps hcqs
        cases hal : alikeB q p
        · have HV := Lib.hid (show intoR p (rows.take (j + 1)) = intoR p (rows.take j) by rw [HTJ.out, HQ.out, into1_cons, if_neg hany, hal]; simp)
          clear hany
          rcases hc with h20 | ⟨h20, h19⟩
          all_goals
            cases a1 : (q.op == p.op)
            case' true => cases a2 : (q.s.toList == p.s.toList)
            case' true.true => cases a3 : (q.n == p.n)
            case' true.true.true => have a4 : (q.kids.length == p.kids.length) = false := by rw [alikeB_def, a1, a2, a3] at hal; simpa using hal
            all_goals
              clear hal
              go_wp2_with fail
              rw [← eb]
              go_roundw
              case rel => exact ⟨j + 1, m, A', c', by omega, by go_num, rfl, by omega, Lib.hid (by rw [HV.out]; exact HGb.out), HPb, hzb, HBb⟩
              case measure => simp [intOf]; omega
        · have HV := Lib.hid (show intoR p (rows.take (j + 1)) = intoR p (rows.take j) ++ [q.kids ++ t] by rw [HTJ.out, HQ.out, into1_cons, if_neg hany, if_pos hal]; simp)
          clear hany
          rw [alikeB_def] at hal
          simp only [Bool.and_eq_true] at hal
          obtain ⟨⟨⟨a1, a2⟩, a3⟩, a4⟩ := hal
          have hkl : q.kids.length ≤ M := by rw [beq_iff_eq] at a4; omega
          have HLL := Lib.hid (show (q.kids ++ t).length = q.kids.length + t.length by simp)
          have hwb : wb.heap.size = wr.heap.size + 1 := by rw [eb]; simp
          obtain ⟨w1, e1⟩ : ∃ w1, w1 = wb.alloc (.cells #[] 33) := ⟨_, rfl⟩
          have E1 := Lib.hid (show Below wb.heap.size wb w1 by rw [e1]; exact (Below.refl _ _).alloc (Nat.le_refl _) _)
          have hs1 := E1.out.size
          have G1 := Lib.hid (show Grx (Xo (Value.slice A' m c') X) w1 wb.heap.size 33 5 (.slice (some ⟨wr.heap.size + 1, 0, none⟩) 0 0) 0 [] from Grx.made (by rw [e1]; exact Row.new' _ _ _ hwb.symm) (by omega))
          have K1 := Lib.hid (show Sl w1 (fun b => b < w1.heap.size ∧ (Value.slice (some ⟨wr.heap.size + 1, 0, none⟩) 0 0).ownBlock ≠ some b ∧ Xo (Value.slice A' m c') X b) 5 A2 c2 (q.kids.map GNode.toD) from
            HKL.out.keep fun b hb => ⟨⟨Nat.lt_of_lt_of_le hb.1 hs1, fun e => by have := hwb; simp [Value.ownBlock] at e; have := hb.1; omega, hb.2.1⟩, E1.out.block b hb.1⟩)
          have hqm : q.kids.length ≤ 9223372036854775807 := by omega
          have HWB := Lib.hid hwb
          have hcq1 := fun i => (QB.out.below E1.out QB.out.lt).cell i
          rw [e1, eb] at hcq1
          clear hwb
          rcases hc with h20 | ⟨h20, h19⟩
          all_goals
            go_wp2_with (first
              | (at_builtin; rw [← eb, ← e1]; refine wpList_append_X w1 rfl (.tmp 67) (.tmp 69) 31 rfl 33 zNode 5 72 Tryz.underlying31 (by kernel_rfl) rfl (by omega) wb.heap.size (.slice (some ⟨wr.heap.size + 1, 0, none⟩) 0 0) 0 _ G1.out A2 c2 q.kids.length _ (by simp) K1.out hs1 (by unfold maxLen; omega) (by omega) rfl rfl ?_
                 intro A3 c3 w3 G3 hGr3
                 rw [Nat.zero_add] at G3 hGr3 ⊢
                 have E3 := Lib.hid (show Below wb.heap.size wb w3 from E1.out.trans (hGr3.below hs1 (fun g hg => by have := HWB.out; simp [Value.ownBlock] at hg; omega)))
                 have hs3 := E3.out.size
                 have G3h := Lib.hid (show Grx (Xo (Value.slice A' m c') X) w3 wb.heap.size 33 5 (.slice A3 q.kids.length c3) q.kids.length (q.kids.map GNode.toD) from G3)
                 have g03 := (E3.out.cell (p := ⟨b, off + j, none⟩) (Nat.lt_of_lt_of_le hSb.1 hsb)).trans g0b
                 have T3 := Lib.hid (show Sl w3 (fun b => b < w3.heap.size ∧ (Value.slice A3 q.kids.length c3).ownBlock ≠ some b ∧ Xo (Value.slice A' m c') X b) 5 (tailA b1 off1 5 c1) (c1 - 1) (t.map GNode.toD) from
                   HTL.out.keep fun b hb => ⟨⟨Nat.lt_of_lt_of_le hb.1 hs3, fun e => by have := (G3h.out.own b e).1; have := hb.1; omega, hb.2.1⟩, E3.out.block b hb.1⟩)
                 clear G3 hGr3)
              | (at_builtin; refine wpList_append_X w3 rfl (.tmp 72) (.tmp 77) 31 rfl 33 zNode 5 72 Tryz.underlying31 (by kernel_rfl) rfl (by omega) wb.heap.size (.slice A3 q.kids.length c3) q.kids.length _ G3h.out (tailA b1 off1 5 c1) (c1 - 1) t.length _ (by simp) T3.out hs3 (by unfold maxLen; omega) (by omega) rfl rfl ?_
                 intro A6 c6 w6 G6 hGr6
                 have E6 := Lib.hid (show Below wb.heap.size wb w6 from E3.out.trans (hGr6.below hs3 (fun g hg => (G3h.out.own g hg).1)))
                 have hs6 := E6.out.size
                 have S6 := Lib.hid (show Sl w6 (fun b => b < w6.heap.size ∧ (Value.slice A' m c').ownBlock ≠ some b ∧ X b) 5 A6 c6 ((q.kids ++ t).map GNode.toD) from by
                   rw [← List.map_append] at G6
                   obtain ⟨A4, c4, e4, h4⟩ := G6.sl HXb.out
                   obtain ⟨rfl, rfl⟩ : A6 = A4 ∧ c6 = c4 := by simpa using e4
                   exact h4)
                 obtain ⟨w8, e8⟩ : ∃ w8, w8 = w6.alloc (.cells #[.slice A6 (q.kids.length + t.length) c6] 31) := ⟨_, rfl⟩
                 have E8 := Lib.hid (show Below w6.heap.size w6 w8 by rw [e8]; exact (Below.refl _ _).alloc (Nat.le_refl _) _)
                 have hs8 := Nat.le_trans (Nat.le_trans hzb hs6) E8.out.size
                 have e8x : w8 = w6.alloc (.cells #[.slice A6 (q.kids ++ t).length c6] 31) := by rw [e8, HLL.out]
                 have T8 := Lib.hid (oneRow (X := X) (r := q.kids ++ t) (w' := w8) (T := 31) (Value.slice A' m c') (fun g hg => Nat.lt_of_lt_of_le (HOW.out g hg).2 hs6) (HX.out _ (Nat.le_trans hsb hs6)) e8x S6.out)
                 have G8 := Lib.hid ((HGb.out.below E6.out).below E8.out)
                 have P8 := Lib.hid ((HPb.out.below E6.out (by omega)).below E8.out (by omega))
                 have HB8 := Lib.hid ((HBb.out.trans (E6.out.mono hsb)).trans (E8.out.mono (Nat.le_trans hsb hs6)))
                 clear G6 hGr6)
              | (at_builtin; rw [← e8]; refine wpList_append_X w8 rfl (.tmp 71) (.tmp 79) 78 rfl 31 zRow 1 24 Tryz.underlying78 (by kernel_rfl) rfl (by omega) (w.heap.size + 1) (.slice A' m c') m _ G8.out (some ⟨w6.heap.size, 0, none⟩) 1 1 _ rfl T8.out hs8 (by unfold maxLen; omega) (by omega) rfl rfl ?_
                 intro A5 c5 w5 G5 hGr5
                 have G5h := Lib.hid G5
                 have B5 := Lib.hid (HB8.out.trans (hGr5.below (by omega) (fun g hg => (by have := (G8.out.own g hg).1; omega))))
                 have P5 := Lib.hid (hGr5.row P8.out (fun e => by have := (G8.out.own _ e).1; omega))
                 have hz5 := Nat.le_trans hs8 hGr5.size
                 clear G5 hGr5))
            go_roundw
            case rel => exact ⟨j + 1, m + 1, A5, c5, by omega, by go_num, rfl, by omega, Lib.hid (by rw [HV.out, List.map_append]; exact G5h.out), P5, hz5, B5⟩
            case measure => simp [intOf]; omega
    · have hje : j = rows.length := by omega
      have HLE := Lib.hid (show rows.take j = rows by rw [hje, List.take_length])
      clear hje
      go_wp2_with fail
      go_ret
      have hG := HG.out
      rw [HLE.out] at hG
      obtain ⟨A5, c5, e5, hs5⟩ := hG.sl (fun b hb => HX.out b (by omega))
      have hl5 := hG.1
      obtain ⟨rfl, rfl⟩ : A' = A5 ∧ c' = c5 := by simpa using e5
      exact ⟨A', c', ret_sl (by rw [← hl5]; simp), hs5, HB.out⟩
end Go.Proofs.YtgbcdfeflgnogaaGreat

/- slices.IndexFunc and slices.ContainsFunc at rows of patterns, with whatever predicate that only makes memory of its own. Conditions: none. -/
namespace Go.Proofs.YtgbcdfeflgnogaaGreat
open Go.RowKit
set_option linter.unusedVariables false
set_option linter.unusedSimpArgs false
set_option maxHeartbeats 400000

theorem indexFuncRow (K : Nat) (hK : ∀ (args : Array Value) (w : World), (callFunc K args).run Tryz.prog w = .ok (.enter K args) w) (caps : Array Value) (p : List GNode → Bool) (l : List (List GNode)) (A : Option Addr) (c : Nat) (w : World) (hs : Sl w (Lt w.heap.size) 1 A c (l.map rowD))
    (H : ∀ x, x ∈ l → ∀ (A1 : Option Addr) (c1 : Nat) (w2 : World), Below w.heap.size w w2 → Sl w2 (Lt w.heap.size) 5 A1 c1 (x.map GNode.toD) →
      Calls Tryz.prog K (#[.slice A1 x.length c1] ++ caps) w2 fun e w' => e = .returned (.bool (p x)) ∧ Below w2.heap.size w2 w') :
    Calls Tryz.prog 94 #[.slice A l.length c, .func (.func K) #[] caps] w fun e w' => e = .returned (.int .i64 (idxI p l)) ∧ Below w.heap.size w w' := by
  have hlen : l.length ≤ 9223372036854775807 := by simpa using hs.len
  have HH := Lib.hid H
  clear H
  go_enter Tryz.func94, Tryz.ntmps94
  go_wp2_with fail
  go_loopw [8] (fun i wr => ∃ j : Nat, j ≤ l.length ∧ i = .int .i64 j ∧ noneTo p l j ∧ Below w.heap.size w wr) (fun i _ => l.length - (intOf i).toNat)
  case atStart => exact ⟨0, by omega, by go_num, noneTo_zero p l, Below.refl _ _⟩
  case round =>
    obtain ⟨j, hj, rfl, hno, hbl⟩ := hrel
    have Hno := Lib.hid hno
    clear hno
    have hsz := hbl.size
    by_cases hlt : j < l.length
    · have htr := rowD_elem (hs.keep (w' := wr) (S' := Lt w.heap.size) fun k hk => ⟨hk, hbl.block k hk⟩) j hlt
      obtain ⟨b, off, A1, c1, rfl, hSb, g0, hat⟩ := htr
      have hmem : l[j] ∈ l := List.getElem_mem hlt
      go_wp2_with fail
      refine (HH.out _ hmem A1 c1 _ hbl hat).mono ?_
      rintro e w1 ⟨rfl, hb1⟩
      cases he : p l[j]
      · have hn := Lib.hid (noneTo_succ Hno.out hlt he)
        go_wp2_with fail
        go_roundw
        case rel => exact ⟨j + 1, by omega, by go_num, hn.out, hbl.trans (hb1.mono hsz)⟩
        case measure => simp [intOf]; omega
      · have hn := Lib.hid (idxI_at Hno.out hlt he)
        go_wp2_with fail
        go_ret
        exact ⟨ret_int hn.out.symm, hbl.trans (hb1.mono hsz)⟩
    · have hjl : j = l.length := by omega
      have Hj := Lib.hid hjl
      clear hjl
      go_wp2_with fail
      go_ret
      exact ⟨ret_int (idxI_none (by have := Hno.out; rw [Hj.out] at this; exact this)).symm, hbl⟩

theorem containsFuncRow (K : Nat) (hK : ∀ (args : Array Value) (w : World), (callFunc K args).run Tryz.prog w = .ok (.enter K args) w) (caps : Array Value) (p : List GNode → Bool) (l : List (List GNode)) (A : Option Addr) (c : Nat) (w : World) (hs : Sl w (Lt w.heap.size) 1 A c (l.map rowD))
    (H : ∀ x, x ∈ l → ∀ (A1 : Option Addr) (c1 : Nat) (w2 : World), Below w.heap.size w w2 → Sl w2 (Lt w.heap.size) 5 A1 c1 (x.map GNode.toD) →
      Calls Tryz.prog K (#[.slice A1 x.length c1] ++ caps) w2 fun e w' => e = .returned (.bool (p x)) ∧ Below w2.heap.size w2 w') :
    Calls Tryz.prog 78 #[.slice A l.length c, .func (.func K) #[] caps] w fun e w' => e = .returned (.bool (l.any p)) ∧ Below w.heap.size w w' := by
  have HH := Lib.hid H
  clear H
  go_enter Tryz.func78, Tryz.ntmps78
  go_wp2_with fail
  refine (indexFuncRow K hK caps p l A c w hs HH.out).mono ?_
  rintro e w1 ⟨rfl, hb1⟩
  cases ha : l.any p
  · have hi := idxI_any_false ha
    rw [hi]
    have Ha := Lib.hid ha
    clear ha hi
    go_wp2_with fail
    go_ret
    exact ⟨ret_bool Ha.out.symm, hb1⟩
  · have hi := idxI_any_true ha
    have Ha := Lib.hid ha
    clear ha
    generalize idxI p l = x at *
    go_wp2_with fail
    go_ret
    exact ⟨ret_bool Ha.out.symm, hb1⟩

end Go.Proofs.YtgbcdfeflgnogaaGreat

/- Coverage: all cons of a data, where rows begin with all of them, in the program. Conditions: the sizes are bounded. -/
namespace Go.Proofs.YtgbcdfeflgnogaaGreat
open Go.RowKit
set_option linter.unusedVariables false
set_option linter.unusedSimpArgs false
set_option maxHeartbeats 1000000

theorem conOf_lt {s : ByteArray} : ∀ {l : List GData} {n j k : Nat}, conOf s l n = some (j, k) → n ≤ j ∧ j < n + l.length
  | [], _, _, _, h => by simp [conOf] at h
  | d :: r, n, j, k, h => by
    rw [conOf] at h
    split at h
    · simp only [Option.some.injEq, Prod.mk.injEq] at h; simp; omega
    · have := conOf_lt h; simp; omega
theorem conI_range (s : ByteArray) (ds : List GData) : (conI (conOf s ds 0)).1 = -1 ∨ ∃ j : Nat, j < ds.length ∧ (conI (conOf s ds 0)).1 = j := by
  cases h : conOf s ds 0 with
  | none => exact .inl rfl
  | some x => obtain ⟨j, k⟩ := x; exact .inr ⟨j, by have := conOf_lt h; omega, rfl⟩
theorem dataStep_range {ds : List GData} {a : Int} (r : List GNode) (h : a = -1 ∨ ∃ j : Nat, j < ds.length ∧ a = j) : dataStep ds a r = -1 ∨ ∃ j : Nat, j < ds.length ∧ dataStep ds a r = j := by
  unfold dataStep
  split
  · exact conI_range _ ds
  · exact h
theorem dataFold_range {ds : List GData} : ∀ (rows : List (List GNode)) {a : Int}, (a = -1 ∨ ∃ j : Nat, j < ds.length ∧ a = j) → rows.foldl (dataStep ds) a = -1 ∨ ∃ j : Nat, j < ds.length ∧ rows.foldl (dataStep ds) a = j
  | [], _, h => h
  | r :: t, _, h => dataFold_range t (dataStep_range r h)
theorem dataAt_range (ds : List GData) (rows : List (List GNode)) : dataAt ds rows = -1 ∨ ∃ j : Nat, j < ds.length ∧ dataAt ds rows = j := dataFold_range rows (.inl rfl)
theorem allR_neg {ds : List GData} {rows : List (List GNode)} (h : dataAt ds rows < 0) : allR ds rows = none := by unfold allR; rw [if_pos h]
theorem allR_at {ds : List GData} {rows : List (List GNode)} {j : Nat} (h : dataAt ds rows = j) (hj : j < ds.length) : allR ds rows = if allIn rows ds[j].cons = true then some (ds[j].cons.map conN) else none := by
  unfold allR; rw [if_neg (by omega), h, Int.toNat_natCast, List.getElem?_eq_getElem hj]
theorem allIn_snoc {rows : List (List GNode)} {cs : List GCon} {k : Nat} (h : k < cs.length) : allIn rows (cs.take (k + 1)) = (allIn rows (cs.take k) && rows.any (headIs cs[k].name)) := by
  unfold allIn; rw [take_snoc' cs k h, List.all_append]; simp
theorem allIn_no {rows : List (List GNode)} {cs : List GCon} {k : Nat} (h : k < cs.length) (hno : rows.any (headIs cs[k].name) = false) : allIn rows cs = false := by
  unfold allIn; rw [List.all_eq_false]; exact ⟨cs[k], List.getElem_mem h, by simpa using hno⟩

theorem ret_sb {A : Option Addr} {n m c : Nat} {b : Bool} (h : n = m) : Ending.returned (.tuple #[.slice A n c, .bool b]) = .returned (.tuple #[.slice A m c, .bool b]) := by rw [h]
theorem conRowSl {X : Nat → Prop} {w w' : World} {T : TypeId} {v : Value} {con : GCon} {A5 : Option Addr} {c5 : Nat} (hv : ∀ g, v.ownBlock = some g → g < w.heap.size) (hX : X w.heap.size) (hn : con.name.size ≤ maxLen)
    (e : w' = w.alloc (.cells #[.int .i64 20, .int .i64 0, .string con.name, .string ⟨#[]⟩, .slice A5 con.args.length c5] T)) (hs : Sl w (Lx (Xo v X) w) 5 A5 c5 ((List.replicate con.args.length anyN).map GNode.toD)) :
    Sl w' (fun b => b < w'.heap.size ∧ v.ownBlock ≠ some b ∧ X b) 5 (some ⟨w.heap.size, 0, none⟩) 1 ([conN con].map GNode.toD) := by
  subst e
  have hB : Below w.heap.size w (w.alloc (.cells #[.int .i64 20, .int .i64 0, .string con.name, .string ⟨#[]⟩, .slice A5 con.args.length c5] T)) := (Below.refl _ _).alloc (Nat.le_refl _) _
  have hk : (conN con).kids = List.replicate con.args.length anyN := rfl
  have hl : (conN con).kids.length = con.args.length := by rw [hk]; simp
  refine slOne (d := (conN con).toD) (T := T) (cs := [.int .i64 20, .int .i64 0, .string con.name, .string ⟨#[]⟩, .slice A5 con.args.length c5]) (Row.new w T _) ?_ rfl ⟨by simp, fun h => by have := hv _ h; omega, hX⟩
  have h := GNode.rd_mk (t := conN con) (A1 := A5) (c1 := c5) (w := w.alloc (.cells #[.int .i64 20, .int .i64 0, .string con.name, .string ⟨#[]⟩, .slice A5 con.args.length c5] T)) (S := fun b => b < (w.alloc (.cells #[.int .i64 20, .int .i64 0, .string con.name, .string ⟨#[]⟩, .slice A5 con.args.length c5] T)).heap.size ∧ v.ownBlock ≠ some b ∧ X b) ⟨(show (Lit.int IntKind.i64 20).wf = true by decide), (show (Lit.int IntKind.i64 0).wf = true by decide), hn, (show ByteArray.empty.size ≤ maxLen by unfold maxLen; simp), by rw [hk]; exact hs.lx hB⟩
  rw [hl] at h
  exact h
/-- all cons, or none -/
def AllTo (X : Nat → Prop) (r : Option (List GNode)) (w : World) (e : Ending) (w' : World) : Prop :=
  Below w.heap.size w w' ∧ match r with
    | none => ∃ A n c, e = .returned (.tuple #[.slice A n c, .bool false])
    | some l => ∃ A c, e = .returned (.tuple #[.slice A l.length c, .bool true]) ∧ Sl w' (Lx X w') 5 A c (l.map GNode.toD)

theorem implConRow1 (s : ByteArray) (b : Nat) (q : GNode) (t : List GNode) (A1 : Option Addr) (c1 : Nat) (w : World) (hc : w.cell? ⟨b, 0, none⟩ = some (.string s)) (hs : Sl w (Lt w.heap.size) 5 A1 c1 ((q :: t).map GNode.toD)) :
    Calls Tryz.prog 113 #[.slice A1 (t.length + 1) c1, .pointer (some ⟨b, 0, none⟩)] w fun e w' => e = .returned (.bool (headIs s (q :: t))) ∧ Below w.heap.size w w' := by
  obtain ⟨b1, off1, A2, c2, rfl, hSb1, hlc, hcm, q0, q1, q2, q3, q4, hat, -, -⟩ := row_head hs
  clear hat q1 q3 q4 hs
  cases h20 : (q.op == 20)
  · have HV := Lib.hid (show headIs s (q :: t) = false by unfold headIs hd; simp [h20])
    go_enter Tryz.func113, Tryz.ntmps113
    go_wp2_with fail
    go_quiet (fail)
    go_wp2_with fail
    go_ret
    exact ⟨ret_bool HV.out.symm, belowN (Below.refl _ _) _⟩
  · have HV := Lib.hid (show headIs s (q :: t) = (q.s.toList == s.toList) by unfold headIs hd; simp [h20])
    go_enter Tryz.func113, Tryz.ntmps113
    go_wp2_with fail
    go_quiet (fail)
    go_wp2_with fail
    go_ret
    exact ⟨ret_bool HV.out.symm, belowN (Below.refl _ _) _⟩

theorem implConRow (rows : List (List GNode)) (A : Option Addr) (c : Nat) (s : ByteArray) (w : World) (hn : ∀ r ∈ rows, 0 < r.length) (hs : Sl w (Lt w.heap.size) 1 A c (rows.map rowD)) :
    Calls Tryz.prog 109 #[.slice A rows.length c, .string s] w fun e w' => e = .returned (.int .i64 (idxI (headIs s) rows)) ∧ Below w.heap.size w w' := by
  have hlen : rows.length ≤ 9223372036854775807 := by simpa using hs.len
  have HS := Lib.hid hs
  have HN := Lib.hid hn
  obtain ⟨w0, e0⟩ : ∃ w0, w0 = w.alloc (.cells #[.string s] 9) := ⟨_, rfl⟩
  have E0 := Lib.hid (show Below w.heap.size w w0 by rw [e0]; exact (Below.refl _ _).alloc (Nat.le_refl _) _)
  have R0 := Lib.hid (show Row w0 w.heap.size 9 #[.string s] by rw [e0]; exact Row.new' _ _ _ rfl)
  clear hs hn
  go_enter Tryz.func109, Tryz.ntmps109
  go_wp2_with fail
  rw [← e0]
  refine (indexFuncRow 113 (enters Tryz.func113 (by kernel_rfl) (by kernel_rfl)) #[.pointer (some ⟨w.heap.size, 0, none⟩)] (headIs s) rows A c w0 (HS.out.keep fun k hk => ⟨Nat.lt_of_lt_of_le hk E0.out.size, E0.out.block k hk⟩)
    (fun x hx A2 c2 w2 hb2 hat2 => by
      obtain ⟨q, t, rfl⟩ := List.exists_cons_of_length_pos (HN.out x hx)
      have R2 := R0.out.below hb2 R0.out.lt
      exact implConRow1 s w.heap.size q t A2 c2 w2 (R2.cell 0) (hat2.keep fun k hk => ⟨Nat.lt_of_lt_of_le hk hb2.size, rfl⟩))).mono ?_
  rintro e w1 ⟨rfl, hb1⟩
  go_wp2_with fail
  go_ret
  exact ⟨rfl, E0.out.trans (hb1.mono E0.out.size)⟩

set_option maxRecDepth 20000 in
theorem implWhole (X : Nat → Prop) (g : Nat) (s : Int) (ds : List GData) (A0 : Option Addr) (c0 : Nat) (rows : List (List GNode)) (A : Option Addr) (c : Nat) (w : World) (hX : ∀ b, w.heap.size ≤ b → X b)
    (hR : Row w g 100 #[.slice A0 ds.length c0, .int .i64 s]) (hds : Sl w (Lx X w) 3 A0 c0 (ds.map GData.toD)) (hn : ∀ r ∈ rows, 0 < r.length) (hM : ∀ d ∈ ds, d.cons.length ≤ 1048576 ∧ ∀ k ∈ d.cons, k.args.length ≤ 1048576) (hs : Sl w (Lx X w) 1 A c (rows.map rowD)) :
    Calls Tryz.prog 98 #[.pointer (some ⟨g, 0, none⟩), .slice A rows.length c] w (AllTo X (allR ds rows) w) := by
  have hlen : rows.length ≤ 9223372036854775807 := by simpa using hs.len
  have hdl : ds.length ≤ 9223372036854775807 := by simpa using hds.len
  have HX := Lib.hid hX
  have HS := Lib.hid hs
  have HD := Lib.hid hds
  have HN := Lib.hid hn
  have HM := Lib.hid hM
  have HG := Lib.hid hR
  have HT := Lib.hid (fun (j : Nat) (h : j < rows.length) => dataAt_snoc ds h)
  clear hX hs hds hn hM hR
  go_enter Tryz.func98, Tryz.ntmps98
  go_wp2_with fail
  go_loopw [6, 14] (fun v i wr => ∃ (j : Nat) (d : Int), j ≤ rows.length ∧ i = .int .i64 j ∧ v = .int .i64 d ∧ Hid (d = dataAt ds (rows.take j)) ∧ Hid (Below w.heap.size w wr)) (fun _ i _ => rows.length - (intOf i).toNat)
  case atStart => exact ⟨0, -1, by omega, by go_num, rfl, Lib.hid rfl, Lib.hid (Below.refl _ _)⟩
  case round =>
    rename World => wo
    obtain ⟨j, d, hj, rfl, rfl, HV, HB⟩ := hrel
    have hsz := HB.out.size
    have HGr := Lib.hid (HG.out.below HB.out HG.out.lt)
    by_cases hlt : j < rows.length
    · obtain ⟨b, off, A1, c1, rfl, hSb, g0, hs1⟩ := rowD_elem (HS.out.stay HB.out) j hlt
      obtain ⟨q, t, hqt⟩ := List.exists_cons_of_length_pos (HN.out _ (List.getElem_mem hlt))
      have HTJ := Lib.hid (HT.out j hlt)
      rw [hqt] at g0 hs1
      rw [List.length_cons] at g0
      obtain ⟨b1, off1, A2, c2, rfl, hSb1, hlc, hcm, q0, q1, q2, q3, q4, hat, -, -⟩ := row_head hs1
      have HQ := Lib.hid hqt
      clear hqt hat hs1 q1 q3 q4
      cases h20 : (q.op == 20)
      · have n20 : (q.op != 20) = true := by simp [bne, h20]
        have HW := Lib.hid (show d = dataAt ds (rows.take (j + 1)) by rw [HTJ.out, HQ.out, ← HV.out]; unfold dataStep; rw [if_neg (by rintro ⟨_, h⟩; change q.op = 20 at h; simp [h] at h20)])
        go_wp2_with fail
        go_roundw
        case rel => exact ⟨j + 1, d, by omega, by go_num, rfl, HW, HB⟩
        case measure => simp [intOf]; omega
      · have n20 : (q.op != 20) = false := by simp [bne, h20]
        by_cases hd : d < 0
        · have HW := Lib.hid (show (conI (conOf q.s ds 0)).1 = dataAt ds (rows.take (j + 1)) by rw [HTJ.out, HQ.out, ← HV.out]; unfold dataStep; rw [if_pos ⟨hd, by change q.op = 20; simpa using h20⟩]; rfl)
          have hge : decide (d ≥ 0) = false := by simp; omega
          have hcg := fun i => HGr.out.cell i
          have HC := Lib.hid (implConOf ds A0 c0 q.s wo.drew (HD.out.keep fun k hk => ⟨Nat.lt_of_lt_of_le hk.1 hsz, HB.out.block k hk.1⟩))
          go_wp2_with fail
          go_region_held3 (fun w' => (∀ i, w'.cell? ⟨g, i, none⟩ = (#[.slice A0 ds.length c0, .int .i64 s] : Array Value)[i]?) ∧ w'.cell? ⟨b1, off1 + 2, none⟩ = some (.string q.s)) (first | exact ⟨hcg, q2⟩ | exact ⟨hcg3, q3⟩) (first
            | (go_at_call 108
               go_must (
                 refine HC.out.mono ?_
                 rintro e w3 ⟨rfl, hb3⟩
                 have B3 := Lib.hid (((Below.refl wo.heap.size wo).drew).trans hb3)
                 have R3 := Lib.hid (HGr.out.below B3.out HGr.out.lt)
                 have hcg3 := fun i => R3.out.cell i
                 have q3 := (B3.out.cell (p := ⟨b1, off1 + 2, none⟩) (Nat.lt_of_lt_of_le hSb1.1 hsz)).trans q2
                 clear hb3)))
          all_goals
            go_wp2_with fail
            go_roundw
            case rel => exact ⟨j + 1, _, by omega, by go_num, rfl, HW, Lib.hid (HB.out.trans (B3.out.mono hsz))⟩
            case measure => simp [intOf]; omega
        · have HW := Lib.hid (show d = dataAt ds (rows.take (j + 1)) by rw [HTJ.out, ← HV.out, dataStep_stay (by omega)])
          have hge : decide (d ≥ 0) = true := by simp; omega
          go_wp2_with fail
          go_roundw
          case rel => exact ⟨j + 1, d, by omega, by go_num, rfl, HW, HB⟩
          case measure => simp [intOf]; omega
    · have HVV := Lib.hid (show d = dataAt ds rows by rw [HV.out, show j = rows.length by omega, List.take_length])
      clear HV
      rcases dataAt_range ds rows with hr | ⟨k, hk, hr⟩
      · have hd : d = -1 := by rw [HVV.out, hr]
        subst hd
        have HN0 := Lib.hid (allR_neg (ds := ds) (rows := rows) (by rw [hr]; omega))
        clear hr
        go_wp2_with fail
        go_ret2
        rw [HN0.out]
        exact ⟨HB.out, _, _, _, rfl⟩
      · have hd : d = (k : Int) := by rw [HVV.out, hr]
        subst hd
        have HA := Lib.hid (allR_at hr hk)
        clear hr
        have hcg := fun i => HGr.out.cell i
        obtain ⟨bd, offd, A1, c1, eA0, hSbd, x0, x1, x2, hatd⟩ := GData.elem (HD.out.stay HB.out) k hk
        have hmem := HM.out _ (List.getElem_mem hk)
        have HMk := Lib.hid hmem.2
        have hcl := hmem.1
        have HC := Lib.hid hatd.2.2
        subst eA0
        clear hatd hmem
        obtain ⟨w0, e0⟩ : ∃ w0, w0 = wo.alloc (.cells #[] 33) := ⟨_, rfl⟩
        have E0 := Lib.hid (show Below wo.heap.size wo w0 by rw [e0]; exact (Below.refl _ _).alloc (Nat.le_refl _) _)
        have HB0 := Lib.hid (HB.out.trans (E0.out.mono hsz))
        have G0 := Lib.hid (show Grx X w0 wo.heap.size 33 5 (.slice (some ⟨wo.heap.size, 0, none⟩) 0 0) 0 [] from Grx.made (by rw [e0]; exact Row.new' _ _ _ rfl) (Nat.le_refl _))
        have R0 := Lib.hid (HGr.out.below E0.out HGr.out.lt)
        have hcg0 := fun i => R0.out.cell i
        have y2 := (E0.out.cell (p := ⟨bd, offd + k * 3 + 2, none⟩) (Nat.lt_of_lt_of_le hSbd.1 hsz)).trans x2
        rw [e0] at hcg0 y2
        go_wp2_with fail
        rw [← e0]
        clear e0 x2
        go_loopw [9, 52] (fun v i wr => ∃ (n : Nat) (A : Option Addr) (c : Nat), n ≤ (ds[k]).cons.length ∧ i = .int .i64 n ∧ v = .slice A n c ∧ Hid (allIn rows ((ds[k]).cons.take n) = true) ∧ Hid (Grx X wr wo.heap.size 33 5 (.slice A n c) n ((((ds[k]).cons.take n).map conN).map GNode.toD)) ∧ Hid (Below w.heap.size w wr) ∧ wo.heap.size ≤ wr.heap.size) (fun _ i _ => (ds[k]).cons.length - (intOf i).toNat)
        case atStart => exact ⟨0, _, _, by omega, by go_num, rfl, Lib.hid rfl, G0, HB0, E0.out.size⟩
        case round =>
          clear G0 HB0 E0 R0 hcg0 y2
          obtain ⟨n, A3, c3, hnl, rfl, rfl, HI, HGx, HBq, hzq⟩ := hrel
          have hsq := HBq.out.size
          have HOW := Lib.hid (fun g (hg : (Value.slice A3 n c3).ownBlock = some g) => HGx.out.own g hg)
          by_cases hnt : n < (ds[k]).cons.length
          · have hn1 : n < 1048576 := by omega
            obtain ⟨b2, off2, A4, c4, rfl, hSb2, p0, p1, hatc⟩ := GCon.elem (show Sl wr (Lx X w) 2 A1 c1 ((ds[k]).cons.map GCon.toD) from HC.out.keep fun b hb => ⟨hb, (HBq.out.block b hb.1).trans (HB.out.block b hb.1).symm⟩) n hnt
            have hal := HMk.out _ (List.getElem_mem hnt)
            have HNS := Lib.hid hatc.1
            clear hatc
            obtain ⟨w1, e1⟩ : ∃ w1, w1 = wr.alloc (.cells #[.string ((ds[k]).cons[n]).name, .slice A4 ((ds[k]).cons[n]).args.length c4] 58) := ⟨_, rfl⟩
            have E1 := Lib.hid (show Below wr.heap.size wr w1 by rw [e1]; exact (Below.refl _ _).alloc (Nat.le_refl _) _)
            have R1 := Lib.hid (show Row w1 wr.heap.size 58 #[.string ((ds[k]).cons[n]).name, .slice A4 ((ds[k]).cons[n]).args.length c4] by rw [e1]; exact Row.new' _ _ _ rfl)
            have HB1 := Lib.hid (HBq.out.trans (E1.out.mono hsq))
            have hc1 := fun i => R1.out.cell i
            have hs11 := HB1.out.size
            have HCR := Lib.hid (implConRow rows A c ((ds[k]).cons[n]).name w1 HN.out (HS.out.keep fun b hb => ⟨Nat.lt_of_lt_of_le hb.1 hs11, HB1.out.block b hb.1⟩))
            have HIS := Lib.hid (allIn_snoc (rows := rows) hnt)
            have HCN := Lib.hid (show ((ds[k]).cons.take (n + 1)).map conN = ((ds[k]).cons.take n).map conN ++ [conN (ds[k]).cons[n]] by rw [take_snoc' _ n hnt, List.map_append]; rfl)
            have HNO := Lib.hid (fun h => allIn_no (rows := rows) hnt h)
            generalize (ds[k]).cons[n] = con at *
            go_wp2_with fail
            rw [← e1]
            refine HCR.out.mono ?_
            rintro e w2 ⟨rfl, hb2⟩
            have HB2 := Lib.hid (HB1.out.trans (hb2.mono hs11))
            have R2 := Lib.hid (R1.out.below hb2 R1.out.lt)
            have G2 := Lib.hid ((HGx.out.below E1.out).below hb2)
            have hc2 := fun i => R2.out.cell i
            have hz2 := Nat.le_trans hzq (Nat.le_trans E1.out.size hb2.size)
            have hs22 := HB2.out.size
            clear hb2 hc1
            cases hy : rows.any (headIs con.name)
            · have HNN := Lib.hid (show allR ds rows = none by rw [HA.out, HNO.out hy]; rfl)
              rw [idxI_any_false hy]
              clear hy
              go_wp2_with fail
              go_ret2
              rw [HNN.out]
              exact ⟨HB2.out, _, _, _, rfl⟩
            · have HI2 := Lib.hid (show allIn rows ((ds[k]).cons.take (n + 1)) = true by rw [HIS.out, HI.out, hy]; rfl)
              have hidx := idxI_any_true hy
              have hlt0 : decide (idxI (headIs con.name) rows < 0) = false := by simp; omega
              clear hy
              generalize idxI (headIs con.name) rows = ix at *
              have HX2 := Lib.hid (Xo.mk (X := X) (v := Value.slice A3 n c3) (fun g hg => (G2.out.own g hg).2) (fun b hb => HX.out b (Nat.le_trans hs22 hb)))
              go_wp2_with fail
              go_region_law (first
                | (rw [← e6]
                   refine step_append_X w6 rfl (.tmp 61) (.tmp 69) 31 rfl 33 zNode 5 72 Tryz.underlying31 (by kernel_rfl) rfl (by omega) wo.heap.size (.slice A3 n c3) n _ G6.out (some ⟨w5.heap.size, 0, none⟩) 1 1 _ rfl T6.out hs6 (by unfold maxLen; omega) (by omega) rfl rfl ?_
                   intro A7 c7 w7 G7 hGr7
                   have G7h := Lib.hid G7
                   have B7 := Lib.hid (HB6.out.trans (hGr7.below (Nat.le_trans hsz hs6) (fun g hg => Nat.le_trans hsz (G6.out.own g hg).1)))
                   have hz7 := Nat.le_trans hs6 hGr7.size
                   clear G7 hGr7)
                | (go_simp
                   go_at_call 100
                   go_must (
                     refine (implAnything (Xo (Value.slice A3 n c3) X) con.args.length w2.drew HX2.out (by omega)).mono ?_
                     rintro e w5 ⟨A5, c5, rfl, hs5, hb5⟩
                     have E5 := Lib.hid (((Below.refl w2.heap.size w2).drew).trans hb5)
                     have R5 := Lib.hid (R2.out.below E5.out R2.out.lt)
                     have hc5 := fun i => R5.out.cell i
                     have HB5 := Lib.hid (HB2.out.trans (E5.out.mono hs22))
                     obtain ⟨w6, e6⟩ : ∃ w6, w6 = w5.alloc (.cells #[.int .i64 20, .int .i64 0, .string con.name, .string ⟨#[]⟩, .slice A5 con.args.length c5] 33) := ⟨_, rfl⟩
                     have E6 := Lib.hid (show Below w5.heap.size w5 w6 by rw [e6]; exact (Below.refl _ _).alloc (Nat.le_refl _) _)
                     have HB6 := Lib.hid (HB5.out.trans (E6.out.mono HB5.out.size))
                     have G6 := Lib.hid ((G2.out.below E5.out).below E6.out)
                     have hs6 := Nat.le_trans hz2 (Nat.le_trans E5.out.size E6.out.size)
                     have T6 := Lib.hid (conRowSl (v := Value.slice A3 n c3) (fun g hg => Nat.lt_of_lt_of_le (G2.out.own g hg).2 E5.out.size) (HX.out _ HB5.out.size) HNS.out e6 hs5)
                     clear hs5 hb5)))
              all_goals
                go_wp2_with fail
                go_roundw
                case rel => exact ⟨n + 1, A7, c7, by omega, by go_num, rfl, HI2, Lib.hid (by rw [HCN.out, List.map_append]; exact G7h.out), B7, hz7⟩
                case measure => simp [intOf]; omega
          · have hne : n = (ds[k]).cons.length := by omega
            have HE := Lib.hid (show (ds[k]).cons.take n = (ds[k]).cons by rw [hne, List.take_length])
            clear hne
            go_wp2_with fail
            go_ret2
            have hI := HI.out
            have hG := HGx.out
            rw [HE.out] at hI hG
            rw [HA.out, if_pos hI]
            obtain ⟨A5, c5, e5, hs5⟩ := hG.sl (fun b hb => HX.out b (Nat.le_trans hsz hb))
            have hl5 := hG.1
            obtain ⟨rfl, rfl⟩ : A3 = A5 ∧ c3 = c5 := by simpa using e5
            exact ⟨HBq.out, A3, c3, ret_sb (by rw [← hl5]; simp), hs5⟩
end Go.Proofs.YtgbcdfeflgnogaaGreat

/- Coverage: all cons of a data, where rows begin with all of them, in the reference. Conditions: the sizes are bounded. -/
namespace Go.Proofs.YtgbcdfeflgnogaaGreat
open Go.RowKit
set_option linter.unusedVariables false
set_option linter.unusedSimpArgs false
set_option maxHeartbeats 1000000

theorem any_snoc' {α : Type} (p : α → Bool) (l : List α) {j : Nat} (h : j < l.length) : (l.take (j + 1)).any p = ((l.take j).any p || p l[j]) := by
  rw [take_snoc' l j h, List.any_append]; simp

set_option maxRecDepth 20000 in
theorem specAll (X : Nat → Prop) (g : Nat) (s : Int) (ds : List GData) (A0 : Option Addr) (c0 : Nat) (rows : List (List GNode)) (A : Option Addr) (c : Nat) (w : World) (hX : ∀ b, w.heap.size ≤ b → X b)
    (hR : Row w g 92 #[.slice A0 ds.length c0, .int .i64 s]) (hds : Sl w (Lx X w) 3 A0 c0 (ds.map GData.toD)) (hn : ∀ r ∈ rows, 0 < r.length) (hM : ∀ d ∈ ds, d.cons.length ≤ 1048576 ∧ ∀ k ∈ d.cons, k.args.length ≤ 1048576) (hs : Sl w (Lx X w) 1 A c (rows.map rowD)) :
    Calls Tryz.prog 87 #[.pointer (some ⟨g, 0, none⟩), .slice A rows.length c] w (AllTo X (allR ds rows) w) := by
  have hlen : rows.length ≤ 9223372036854775807 := by simpa using hs.len
  have hdl : ds.length ≤ 9223372036854775807 := by simpa using hds.len
  have HX := Lib.hid hX
  have HS := Lib.hid hs
  have HD := Lib.hid hds
  have HN := Lib.hid hn
  have HM := Lib.hid hM
  have HG := Lib.hid hR
  have HT := Lib.hid (fun (j : Nat) (h : j < rows.length) => dataAt_snoc ds h)
  obtain ⟨w0, e0⟩ : ∃ w0, w0 = w.alloc (.cells #[] 33) := ⟨_, rfl⟩
  have E0 := Lib.hid (show Below w.heap.size w w0 by rw [e0]; exact (Below.refl _ _).alloc (Nat.le_refl _) _)
  have G0 := Lib.hid (show Grx X w0 w.heap.size 33 5 (.slice (some ⟨w.heap.size, 0, none⟩) 0 0) 0 [] from Grx.made (by rw [e0]; exact Row.new' _ _ _ rfl) (Nat.le_refl _))
  clear hX hs hds hn hM hR
  go_enter Tryz.func87, Tryz.ntmps87
  go_wp2_with fail
  rw [← e0]
  clear e0
  go_loopw [7, 8] (fun v i wr => ∃ (j : Nat) (d : Int), j ≤ rows.length ∧ i = .int .i64 j ∧ v = .int .i64 d ∧ Hid (d = dataAt ds (rows.take j)) ∧ Hid (Grx X wr w.heap.size 33 5 (.slice (some ⟨w.heap.size, 0, none⟩) 0 0) 0 []) ∧ Hid (Below w.heap.size w wr)) (fun _ i _ => rows.length - (intOf i).toNat)
  case atStart => exact ⟨0, -1, by omega, by go_num, rfl, Lib.hid rfl, G0, E0⟩
  case round =>
    rename World => wo
    clear G0 E0
    obtain ⟨j, d, hj, rfl, rfl, HV, HGx, HB⟩ := hrel
    have hsz := HB.out.size
    have HGr := Lib.hid (HG.out.below HB.out HG.out.lt)
    by_cases hrun : j < rows.length ∧ d < 0
    · obtain ⟨hlt, hd⟩ := hrun
      obtain ⟨b, off, A1, c1, rfl, hSb, g0, hs1⟩ := rowD_elem (HS.out.stay HB.out) j hlt
      obtain ⟨q, t, hqt⟩ := List.exists_cons_of_length_pos (HN.out _ (List.getElem_mem hlt))
      have HTJ := Lib.hid (HT.out j hlt)
      rw [hqt] at g0 hs1
      rw [List.length_cons] at g0
      obtain ⟨b1, off1, A2, c2, rfl, hSb1, hlc, hcm, q0, q1, q2, q3, q4, hat, -, -⟩ := row_head hs1
      have HQ := Lib.hid hqt
      clear hqt hat hs1 q1 q3 q4
      cases h20 : (q.op == 20)
      · have HW := Lib.hid (show d = dataAt ds (rows.take (j + 1)) by rw [HTJ.out, HQ.out, ← HV.out]; unfold dataStep; rw [if_neg (by rintro ⟨_, h⟩; change q.op = 20 at h; simp [h] at h20)])
        go_wp2_with fail
        go_roundw
        case rel => exact ⟨j + 1, d, by omega, by go_num, rfl, HW, HGx, HB⟩
        case measure => simp [intOf]; omega
      · have HW := Lib.hid (show (conI (conOf q.s ds 0)).1 = dataAt ds (rows.take (j + 1)) by rw [HTJ.out, HQ.out, ← HV.out]; unfold dataStep; rw [if_pos ⟨hd, by change q.op = 20; simpa using h20⟩]; rfl)
        have hcg := fun i => HGr.out.cell i
        have HC := Lib.hid (specConOf ds A0 c0 q.s wo.drew (HD.out.keep fun k hk => ⟨Nat.lt_of_lt_of_le hk.1 hsz, HB.out.block k hk.1⟩))
        go_wp2_with fail
        go_region_held3 (fun w' => (∀ i, w'.cell? ⟨g, i, none⟩ = (#[.slice A0 ds.length c0, .int .i64 s] : Array Value)[i]?) ∧ w'.cell? ⟨b, off + j, none⟩ = some (.slice (some ⟨b1, off1, none⟩) (t.length + 1) c1) ∧ w'.cell? ⟨b1, off1 + 2, none⟩ = some (.string q.s)) (first | exact ⟨hcg, g0, q2⟩ | exact ⟨hcg3, g3, q3⟩) (first
          | (go_at_call 103
             go_must (
               refine HC.out.mono ?_
               rintro e w3 ⟨rfl, hb3⟩
               have B3 := Lib.hid (((Below.refl wo.heap.size wo).drew).trans hb3)
               have R3 := Lib.hid (HGr.out.below B3.out HGr.out.lt)
               have hcg3 := fun i => R3.out.cell i
               have g3 := (B3.out.cell (p := ⟨b, off + j, none⟩) (Nat.lt_of_lt_of_le hSb.1 hsz)).trans g0
               have q3 := (B3.out.cell (p := ⟨b1, off1 + 2, none⟩) (Nat.lt_of_lt_of_le hSb1.1 hsz)).trans q2
               have G3 := Lib.hid (HGx.out.below B3.out)
               clear hb3)))
        all_goals
          go_wp2_with fail
          go_roundw
          case rel => exact ⟨j + 1, _, by omega, by go_num, rfl, HW, G3, Lib.hid (HB.out.trans (B3.out.mono hsz))⟩
          case measure => simp [intOf]; omega
    · have HVV := Lib.hid (show d = dataAt ds rows by
        by_cases hd : d < 0
        · rw [HV.out, show j = rows.length by omega, List.take_length]
        · have h1 := HV.out
          rw [h1]; exact (dataAt_stay (by omega)).symm)
      have hcond : (decide ((j : Int) < rows.length) && decide (d < 0)) = false := by
        simp only [Bool.and_eq_false_iff, decide_eq_false_iff_not]; omega
      rcases dataAt_range ds rows with hr | ⟨k, hk, hr⟩
      · have hd : d = -1 := by rw [HVV.out, hr]
        subst hd
        have hjn : ¬ j < rows.length := by omega
        have HN0 := Lib.hid (allR_neg (ds := ds) (rows := rows) (by rw [hr]; omega))
        clear hr hrun hcond
        go_wp2_with fail
        go_ret2
        rw [HN0.out]
        exact ⟨HB.out, _, _, _, rfl⟩
      · have hd : d = (k : Int) := by rw [HVV.out, hr]
        subst hd
        have HA := Lib.hid (allR_at hr hk)
        clear hr hrun hcond HVV HV
        have hcg := fun i => HGr.out.cell i
        obtain ⟨bd, offd, A1, c1, eA0, hSbd, x0, x1, x2, hatd⟩ := GData.elem HD.out k hk
        have hmem := HM.out _ (List.getElem_mem hk)
        have HMk := Lib.hid hmem.2
        have hcl := hmem.1
        have HC := Lib.hid hatd.2.2
        subst eA0
        clear hatd hmem x0 x1
        have X2 := Lib.hid x2
        clear x2
        have x2 := (HB.out.cell (p := ⟨bd, offd + k * 3 + 2, none⟩) hSbd.1).trans X2.out
        by_cases hjl : j < rows.length
        all_goals
          go_wp2_with fail
          clear hjl x2 hcg
          go_loopw [6, 9] (fun v i wp => ∃ (n : Nat) (A : Option Addr) (c : Nat), n ≤ (ds[k]).cons.length ∧ i = .int .i64 n ∧ v = .slice A n c ∧ Hid (allIn rows ((ds[k]).cons.take n) = true) ∧ Hid (Grx X wp w.heap.size 33 5 (.slice A n c) n ((((ds[k]).cons.take n).map conN).map GNode.toD)) ∧ Hid (Below w.heap.size w wp)) (fun _ i _ => (ds[k]).cons.length - (intOf i).toNat)
          case atStart => exact ⟨0, _, _, by omega, by go_num, rfl, Lib.hid rfl, HGx, HB⟩
          case round =>
            rename World => wp
            obtain ⟨n, A3, c3, hnl, rfl, rfl, HI, HGq, HBq⟩ := hrel
            have hsq := HBq.out.size
            have HGq2 := Lib.hid (HG.out.below HBq.out HG.out.lt)
            have hcg := fun i => HGq2.out.cell i
            have x2 := (HBq.out.cell (p := ⟨bd, offd + k * 3 + 2, none⟩) hSbd.1).trans X2.out
            by_cases hnt : n < (ds[k]).cons.length
            · have hn1 : n < 1048576 := by omega
              obtain ⟨b2, off2, A4, c4, rfl, hSb2, p0, p1, hatc⟩ := GCon.elem (show Sl wp (Lx X w) 2 A1 c1 ((ds[k]).cons.map GCon.toD) from HC.out.keep fun b hb => ⟨hb, HBq.out.block b hb.1⟩) n hnt
              have hal := HMk.out _ (List.getElem_mem hnt)
              have HNS := Lib.hid hatc.1
              clear hatc
              obtain ⟨w1, e1⟩ : ∃ w1, w1 = wp.alloc (.cells #[.string ((ds[k]).cons[n]).name, .slice A4 ((ds[k]).cons[n]).args.length c4] 58) := ⟨_, rfl⟩
              have E1 := Lib.hid (show Below wp.heap.size wp w1 by rw [e1]; exact (Below.refl _ _).alloc (Nat.le_refl _) _)
              have R1 := Lib.hid (show Row w1 wp.heap.size 58 #[.string ((ds[k]).cons[n]).name, .slice A4 ((ds[k]).cons[n]).args.length c4] by rw [e1]; exact Row.new' _ _ _ rfl)
              have HB1 := Lib.hid (HBq.out.trans (E1.out.mono hsq))
              have G1 := Lib.hid (HGq.out.below E1.out)
              have hs11 := HB1.out.size
              have HIS := Lib.hid (allIn_snoc (rows := rows) hnt)
              have HCN := Lib.hid (show ((ds[k]).cons.take (n + 1)).map conN = ((ds[k]).cons.take n).map conN ++ [conN (ds[k]).cons[n]] by rw [take_snoc' _ n hnt, List.map_append]; rfl)
              have HNO := Lib.hid (fun h => allIn_no (rows := rows) hnt h)
              generalize (ds[k]).cons[n] = con at *
              go_wp2_with fail
              rw [← e1]
              clear hcg x2
              go_loopw [11, 12] (fun v i wr => ∃ (m : Nat), m ≤ rows.length ∧ i = .int .i64 m ∧ v = .bool ((rows.take m).any (headIs con.name)) ∧ Hid (Below w1.heap.size w1 wr)) (fun _ i _ => rows.length - (intOf i).toNat)
              case atStart => exact ⟨0, by omega, by go_num, rfl, Lib.hid (Below.refl _ _)⟩
              case round =>
                obtain ⟨m, hm, rfl, rfl, HBi⟩ := hrel
                have hsi := HBi.out.size
                have HBwi := Lib.hid (HB1.out.trans (HBi.out.mono hs11))
                have Ri := Lib.hid (R1.out.below HBi.out R1.out.lt)
                have hci := fun i => Ri.out.cell i
                by_cases hmt : m < rows.length
                · obtain ⟨b5, off5, A5, c5, rfl, hSb5, g5, hs5⟩ := rowD_elem (HS.out.stay HBwi.out) m hmt
                  obtain ⟨q, t, hqt⟩ := List.exists_cons_of_length_pos (HN.out _ (List.getElem_mem hmt))
                  have HSN := Lib.hid (any_snoc' (headIs con.name) rows hmt)
                  rw [hqt] at g5 hs5 HSN
                  rw [List.length_cons] at g5
                  obtain ⟨b6, off6, A6, c6, rfl, hSb6, hlc, hcm, q0, q1, q2, q3, q4, hat, -, -⟩ := row_head hs5
                  clear hqt hat hs5 q1 q3 q4
                  cases hth : (rows.take m).any (headIs con.name)
                  case' true =>
                    have HW := Lib.hid (show (rows.take (m + 1)).any (headIs con.name) = true by rw [HSN.out, hth]; rfl)
                  case' false =>
                    cases h20 : (q.op == 20)
                    case' false =>
                      have HW := Lib.hid (show (rows.take (m + 1)).any (headIs con.name) = false by rw [HSN.out, hth]; unfold headIs hd; simp [h20])
                    case' true =>
                      have HW := Lib.hid (show (rows.take (m + 1)).any (headIs con.name) = (q.s.toList == con.name.toList) by rw [HSN.out, hth]; unfold headIs hd; simp [h20])
                  all_goals
                    clear hth
                    go_wp2_with fail
                    go_quiet (fail)
                    go_wp2_with fail
                    go_roundw
                    case rel => exact ⟨m + 1, by omega, by go_num, by rw [HW.out], Lib.hid (belowN HBi.out _)⟩
                    case measure => simp [intOf]; omega
                · have HE := Lib.hid (show rows.take m = rows by rw [show m = rows.length by omega, List.take_length])
                  rw [HE.out]
                  have Gi := Lib.hid (G1.out.below HBi.out)
                  cases hy : rows.any (headIs con.name)
                  · have HNN := Lib.hid (show allR ds rows = none by rw [HA.out, HNO.out hy]; rfl)
                    clear hy
                    go_wp2_with fail
                    go_ret2
                    rw [HNN.out]
                    exact ⟨HBwi.out, _, _, _, rfl⟩
                  · have HI2 := Lib.hid (show allIn rows ((ds[k]).cons.take (n + 1)) = true by rw [HIS.out, HI.out, hy]; rfl)
                    clear hy
                    have hsw := HBwi.out.size
                    have HX2 := Lib.hid (Xo.mk (X := X) (v := Value.slice A3 n c3) (fun g hg => (Gi.out.own g hg).2) (fun b hb => HX.out b (Nat.le_trans hsw hb)))
                    have hz2 : w.heap.size ≤ wr.heap.size := hsw
                    go_wp2_with fail
                    go_region_law (first
                      | (rw [← e6]
                         refine step_append_X w6 rfl (.tmp 106) (.tmp 114) 31 rfl 33 zNode 5 72 Tryz.underlying31 (by kernel_rfl) rfl (by omega) w.heap.size (.slice A3 n c3) n _ G6.out (some ⟨w5.heap.size, 0, none⟩) 1 1 _ rfl T6.out hs6 (by unfold maxLen; omega) (by omega) rfl rfl ?_
                         intro A7 c7 w7 G7 hGr7
                         have G7h := Lib.hid G7
                         have B7 := Lib.hid (HB6.out.trans (hGr7.below hs6 (fun g hg => (G6.out.own g hg).1)))
                         clear G7 hGr7)
                      | (go_simp
                         go_at_call 89
                         go_must (
                           refine (specAny (Xo (Value.slice A3 n c3) X) con.args.length [] none 0 wr.drew HX2.out (by simp; omega) (Sl.nil (by unfold maxLen; omega))).mono ?_
                           rintro e w5 ⟨A5, c5, rfl, hs5, hb5⟩
                           rw [List.append_nil] at hs5 ⊢
                           have E5 := Lib.hid (((Below.refl wr.heap.size wr).drew).trans hb5)
                           have R5 := Lib.hid (Ri.out.below E5.out Ri.out.lt)
                           have hc5 := fun i => R5.out.cell i
                           have HB5 := Lib.hid (HBwi.out.trans (E5.out.mono hsw))
                           obtain ⟨w6, e6⟩ : ∃ w6, w6 = w5.alloc (.cells #[.int .i64 20, .int .i64 0, .string con.name, .string ⟨#[]⟩, .slice A5 con.args.length c5] 33) := ⟨_, rfl⟩
                           have E6 := Lib.hid (show Below w5.heap.size w5 w6 by rw [e6]; exact (Below.refl _ _).alloc (Nat.le_refl _) _)
                           have HB6 := Lib.hid (HB5.out.trans (E6.out.mono HB5.out.size))
                           have G6 := Lib.hid ((Gi.out.below E5.out).below E6.out)
                           have hs6 := HB6.out.size
                           have T6 := Lib.hid (conRowSl (v := Value.slice A3 n c3) (fun g hg => Nat.lt_of_lt_of_le (Gi.out.own g hg).2 E5.out.size) (HX.out _ HB5.out.size) HNS.out e6 hs5)
                           clear hs5 hb5)))
                    all_goals
                      go_wp2_with fail
                      go_roundw
                      case rel => exact ⟨n + 1, A7, c7, by omega, by go_num, rfl, HI2, Lib.hid (by rw [HCN.out, List.map_append]; exact G7h.out), B7⟩
                      case measure => simp [intOf]; omega
            · have hne : n = (ds[k]).cons.length := by omega
              have HE := Lib.hid (show (ds[k]).cons.take n = (ds[k]).cons by rw [hne, List.take_length])
              clear hne
              go_wp2_with fail
              go_ret2
              have hI := HI.out
              have hG := HGq.out
              rw [HE.out] at hI hG
              rw [HA.out, if_pos hI]
              obtain ⟨A5, c5, e5, hs5⟩ := hG.sl HX.out
              have hl5 := hG.1
              obtain ⟨rfl, rfl⟩ : A3 = A5 ∧ c3 = c5 := by simpa using e5
              exact ⟨HBq.out, A3, c3, ret_sb (by rw [← hl5]; simp), hs5⟩
end Go.Proofs.YtgbcdfeflgnogaaGreat
