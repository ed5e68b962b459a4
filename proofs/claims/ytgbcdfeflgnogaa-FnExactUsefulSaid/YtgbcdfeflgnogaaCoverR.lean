/- Coverage: the rows that fit, and the rest of rows, in the program and in the reference. Conditions: the sizes are bounded. -/
import Derived.Test.YtgbcdfeflgnogaaCoverC
import Derived.BigQuiet
import Derived.Deep.RegionLaw
import Derived.Deep.DeepMust
import Derived.Deep.RegionHeld3
namespace Go.Proofs.Ytgbcdfeflgnogaa
open Go.RowKit
set_option linter.unusedVariables false
set_option linter.unusedSimpArgs false
set_option maxHeartbeats 1000000

theorem isAny_ne {p : GNode} (h1 : (p.op == 20) = false) (h2 : (p.op == 19) = false) : isAnyB p = true := by unfold isAnyB; simp [bne, h1, h2]
theorem isAny_con {p : GNode} (h1 : (p.op == 20) = true) : isAnyB p = false := by unfold isAnyB; simp [bne, h1]
theorem isAny_num {p : GNode} (h1 : (p.op == 19) = true) : isAnyB p = false := by unfold isAnyB; simp [bne, h1]
theorem implIsAny (p : GNode) (A1 : Option Addr) (c1 : Nat) (w : World) :
    Calls Try.prog 177 #[.agg #[.int .i64 p.op, .int .i64 p.n, .string p.s, .string p.t, .slice A1 p.kids.length c1]] w fun e w' => e = .returned (.bool (isAnyB p)) ∧ Below w.heap.size w w' := by
  have B := Lib.hid (show Below w.heap.size w (w.alloc (.cells #[.int .i64 p.op, .int .i64 p.n, .string p.s, .string p.t, .slice A1 p.kids.length c1] 49)) from (Below.refl _ _).alloc (Nat.le_refl _) _)
  cases h20 : (p.op == 20)
  case' true =>
    have HV := Lib.hid (isAny_con h20)
    have n20 : (p.op != 20) = false := by simp [bne, h20]
  case' false =>
    have n20 : (p.op != 20) = true := by simp [bne, h20]
    cases h19 : (p.op == 19)
    case' true =>
      have HV := Lib.hid (isAny_num h19)
      have n19 : (p.op != 19) = false := by simp [bne, h19]
    case' false =>
      have HV := Lib.hid (isAny_ne h20 h19)
      have n19 : (p.op != 19) = true := by simp [bne, h19]
  all_goals
    go_enter Try.func177, Try.ntmps177
    go_wp2_with fail
    go_ret
    exact ⟨ret_bool HV.out.symm, B.out⟩

def zRow : Value := .slice none 0 0
/-- a row in a block of its own, ahead of its append -/
theorem oneRow {X : Nat → Prop} {w w' : World} {A1 : Option Addr} {c1 : Nat} {r : List GNode} {T : TypeId} (v : Value) (hv : ∀ g, v.ownBlock = some g → g < w.heap.size) (hX : X w.heap.size) (e : w' = w.alloc (.cells #[.slice A1 r.length c1] T)) (hs : Sl w (fun b => b < w.heap.size ∧ v.ownBlock ≠ some b ∧ X b) 5 A1 c1 (r.map GNode.toD)) :
    Sl w' (fun b => b < w'.heap.size ∧ v.ownBlock ≠ some b ∧ X b) 1 (some ⟨w.heap.size, 0, none⟩) 1 ([r].map rowD) := by
  subst e
  have hB : Below w.heap.size w (w.alloc (.cells #[.slice A1 r.length c1] T)) := (Below.refl _ _).alloc (Nat.le_refl _) _
  exact slOneRow (Row.new w T #[.slice A1 r.length c1]) (hs.keep fun b hb => ⟨⟨Nat.lt_of_lt_of_le hb.1 hB.size, hb.2⟩, hB.block b hb.1⟩) ⟨by simp, fun h => by have := hv _ h; omega, hX⟩
/-- what does not lie in a growing slice's own row -/
def Xo (v : Value) (X : Nat → Prop) : Nat → Prop := fun b => v.ownBlock ≠ some b ∧ X b
theorem Xo.mk {v : Value} {X : Nat → Prop} {n : Nat} (hv : ∀ g, v.ownBlock = some g → g < n) (hX : ∀ b, n ≤ b → X b) : ∀ b, n ≤ b → Xo v X b := fun b hb => ⟨fun e => by have := hv b e; omega, hX b hb⟩
theorem restR_take {rows : List (List GNode)} {j : Nat} (h : j < rows.length) : restR (rows.take (j + 1)) = restR (rows.take j) ++ (rest1 rows[j]).toList := by
  unfold restR; rw [take_snoc' rows j h, List.filterMap_append]; cases hr : rest1 rows[j] <;> simp [hr]
theorem intoR_take {p : GNode} {rows : List (List GNode)} {j : Nat} (h : j < rows.length) : intoR p (rows.take (j + 1)) = intoR p (rows.take j) ++ (into1 p rows[j]).toList := by
  unfold intoR; rw [take_snoc' rows j h, List.filterMap_append]; cases hr : into1 p rows[j] <;> simp [hr]

set_option maxRecDepth 20000 in
theorem implOthers (X : Nat → Prop) (rows : List (List GNode)) (A : Option Addr) (c : Nat) (w : World) (hX : ∀ b, w.heap.size ≤ b → X b) (hr : rows.length ≤ 1048576) (hn : ∀ r ∈ rows, 0 < r.length) (hs : Sl w (Lx X w) 1 A c (rows.map rowD)) :
    Calls Try.prog 181 #[.slice A rows.length c] w (RTo X (restR rows) w) := by
  have HX := Lib.hid hX
  have HS := Lib.hid hs
  have HN := Lib.hid hn
  have HT := Lib.hid (fun (j : Nat) (h : j < rows.length) => restR_take h)
  have hrun := fun (b off n c : Nat) (hn : n < c) (w : World) => run_tail (P := Try.prog) 29 49 5 Try.underlying29 (by kernel_rfl) b off n c hn w
  have HR := Lib.hid hrun
  obtain ⟨w0, e0⟩ : ∃ w0, w0 = w.alloc (.cells #[] 29) := ⟨_, rfl⟩
  have E0 := Lib.hid (show Below w.heap.size w w0 by rw [e0]; exact (Below.refl _ _).alloc (Nat.le_refl _) _)
  have G0 := Lib.hid (show Grx X w0 w.heap.size 29 1 (.slice (some ⟨w.heap.size, 0, none⟩) 0 0) 0 [] from Grx.made (by rw [e0]; exact Row.new' _ _ _ rfl) (Nat.le_refl _))
  clear hX hs hn hrun
  go_enter Try.func181, Try.ntmps181
  go_wp2_with fail
  rw [← e0]
  clear e0
  go_loopw [3, 9] (fun v i wr => ∃ (j m : Nat) (A : Option Addr) (c : Nat), j ≤ rows.length ∧ i = .int .i64 j ∧ v = .slice A m c ∧ m ≤ j ∧ Hid (Grx X wr w.heap.size 29 1 (.slice A m c) m ((restR (rows.take j)).map rowD)) ∧ Hid (Below w.heap.size w wr)) (fun _ i _ => rows.length - (intOf i).toNat)
  case atStart => exact ⟨0, 0, _, _, by omega, by go_num, rfl, by omega, G0, E0⟩
  case round =>
    obtain ⟨j, m, A', c', hj, rfl, rfl, hm, HG, HB⟩ := hrel
    have hsz := HB.out.size
    have HOW := Lib.hid (fun g (hg : (Value.slice A' m c').ownBlock = some g) => HG.out.own g hg)
    by_cases hlt : j < rows.length
    · obtain ⟨b, off, A1, c1, rfl, hSb, g0, hs1⟩ := rowD_elem (HS.out.stay HB.out) j hlt
      obtain ⟨q, t, hqt⟩ := List.exists_cons_of_length_pos (HN.out _ (List.getElem_mem hlt))
      have HTJ := Lib.hid (HT.out j hlt)
      rw [hqt] at g0 hs1
      rw [List.length_cons] at g0
      obtain ⟨b1, off1, A2, c2, rfl, hSb1, hlc, hcm, q0, q1, q2, q3, q4, hat, -, -⟩ := row_head hs1
      have HTL := Lib.hid (rowTail hs1)
      have htl := HR.out b1 off1 t.length c1 (by omega)
      have HQ := Lib.hid hqt
      clear hqt hat hs1
      go_wp2_with fail
      refine (implIsAny q A2 c2 _).mono ?_
      rintro e w2 ⟨rfl, hb2⟩
      have HB2 := Lib.hid (HB.out.trans (hb2.mono hsz))
      have HG2 := Lib.hid (HG.out.below hb2)
      have HBx := Lib.hid hb2
      clear hb2
      cases hq : isAnyB q
      · have HV := Lib.hid (show restR (rows.take (j + 1)) = restR (rows.take j) by rw [HTJ.out, HQ.out, rest1_cons, hq]; simp)
        clear hq
        go_wp2_with fail
        go_roundw
        case rel => exact ⟨j + 1, m, A', c', by omega, by go_num, rfl, by omega, Lib.hid (by rw [HV.out]; exact HG2.out), HB2⟩
        case measure => simp [intOf]; omega
      · have HV := Lib.hid (show restR (rows.take (j + 1)) = restR (rows.take j) ++ [t] by rw [HTJ.out, HQ.out, rest1_cons, hq]; simp)
        clear hq
        obtain ⟨w3, e3⟩ : ∃ w3, w3 = w2.alloc (.cells #[.slice (tailA b1 off1 5 c1) t.length (c1 - 1)] 29) := ⟨_, rfl⟩
        have E3 := Lib.hid (show Below w2.heap.size w2 w3 by rw [e3]; exact (Below.refl _ _).alloc (Nat.le_refl _) _)
        have hs2 := HB2.out.size
        have T3 := Lib.hid (oneRow (X := X) (Value.slice A' m c') (fun g hg => (HG2.out.own g hg).2) (HX.out _ hs2) e3 (HTL.out.keep (w' := w2) fun b hb => ⟨⟨Nat.lt_of_lt_of_le hb.1 hs2, fun e => by have := (HG2.out.own b e).1; have := hb.1; omega, hb.2⟩, HBx.out.block b (Nat.lt_of_lt_of_le hb.1 hsz)⟩))
        have G3 := Lib.hid (HG2.out.below E3.out)
        have hs3 := Nat.le_trans hs2 E3.out.size
        go_wp2_with (first | (at_builtin; rw [← e3]; refine wpList_append_X w3 rfl (.tmp 17) (.tmp 20) 37 rfl 29 zRow 1 24 Try.underlying37 (by kernel_rfl) rfl (by omega) w.heap.size (.slice A' m c') m _ G3.out (some ⟨w2.heap.size, 0, none⟩) 1 1 _ rfl T3.out hs3 (by unfold maxLen; omega) (by omega) rfl rfl ?_; intro A4 c4 w4 G4 hGr4; have G4h := Lib.hid G4; have B4 := Lib.hid ((HB2.out.trans (E3.out.mono hs2)).trans (hGr4.below hs3 (fun g hg => (HOW.out g hg).1))); clear G4 hGr4))
        go_roundw
        case rel => exact ⟨j + 1, m + 1, A4, c4, by omega, by go_num, rfl, by omega, Lib.hid (by rw [HV.out, List.map_append]; exact G4h.out), B4⟩
        case measure => simp [intOf]; omega
    · have hje : j = rows.length := by omega
      have HLE := Lib.hid (show rows.take j = rows by rw [hje, List.take_length])
      clear hje
      go_wp2_with fail
      go_ret
      have hG := HG.out
      rw [HLE.out] at hG
      obtain ⟨A5, c5, e5, hs5⟩ := hG.sl HX.out
      have hl5 := hG.1
      obtain ⟨rfl, rfl⟩ : A' = A5 ∧ c' = c5 := by simpa using e5
      exact ⟨A', c', ret_sl (by rw [← hl5]; simp), hs5, HB.out⟩

theorem alikeB_def (q p : GNode) : alikeB q p = (q.op == p.op && q.s.toList == p.s.toList && q.n == p.n && q.kids.length == p.kids.length) := rfl
theorem implAlike (q p : GNode) (A1 : Option Addr) (c1 : Nat) (A2 : Option Addr) (c2 : Nat) (w : World) :
    Calls Try.prog 240 #[.agg #[.int .i64 q.op, .int .i64 q.n, .string q.s, .string q.t, .slice A1 q.kids.length c1], .agg #[.int .i64 p.op, .int .i64 p.n, .string p.s, .string p.t, .slice A2 p.kids.length c2]] w fun e w' => e = .returned (.bool (alikeB q p)) ∧ Below w.heap.size w w' := by
  have B := Lib.hid (show Below w.heap.size w ((w.alloc (.cells #[.int .i64 q.op, .int .i64 q.n, .string q.s, .string q.t, .slice A1 q.kids.length c1] 49)).alloc (.cells #[.int .i64 p.op, .int .i64 p.n, .string p.s, .string p.t, .slice A2 p.kids.length c2] 49)) from ((Below.refl _ _).alloc (Nat.le_refl _) _).alloc (by simp) _)
  cases h1 : (q.op == p.op)
  case' true => cases h2 : (q.s.toList == p.s.toList)
  case' true.true => cases h3 : (q.n == p.n)
  case' true.true.true => cases h4 : (q.kids.length == p.kids.length)
  all_goals
    go_enter Try.func240, Try.ntmps240
    go_wp2_with fail
    go_ret
    exact ⟨ret_bool (by rw [alikeB_def]; simp [*] <;> (simp only [beq_iff_eq, beq_eq_false_iff_ne] at h4; omega)), B.out⟩

set_option maxRecDepth 20000 in
theorem implOpened (X : Nat → Prop) (M : Nat) (p : GNode) (A0 : Option Addr) (c0 : Nat) (rows : List (List GNode)) (A : Option Addr) (c : Nat) (w : World) (hX : ∀ b, w.heap.size ≤ b → X b) (hr : rows.length ≤ 1048576) (hn : ∀ r ∈ rows, 0 < r.length ∧ r.length + M ≤ 1099511627776) (hp : p.kids.length ≤ M) (hs : Sl w (Lx X w) 1 A c (rows.map rowD)) :
    Calls Try.prog 178 #[.slice A rows.length c, .agg #[.int .i64 p.op, .int .i64 p.n, .string p.s, .string p.t, .slice A0 p.kids.length c0]] w (RTo X (intoR p rows) w) := by
  have HX := Lib.hid hX
  have HS := Lib.hid hs
  have HN := Lib.hid hn
  have HT := Lib.hid (fun (j : Nat) (h : j < rows.length) => intoR_take (p := p) h)
  have HR := Lib.hid (fun (b off n c : Nat) (hn : n < c) (w : World) => run_tail (P := Try.prog) 29 49 5 Try.underlying29 (by kernel_rfl) b off n c hn w)
  obtain ⟨w0, e0⟩ : ∃ w0, w0 = (w.alloc (.cells #[.int .i64 p.op, .int .i64 p.n, .string p.s, .string p.t, .slice A0 p.kids.length c0] 49)).alloc (.cells #[] 29) := ⟨_, rfl⟩
  have E0 := Lib.hid (show Below w.heap.size w w0 by rw [e0]; exact ((Below.refl _ _).alloc (Nat.le_refl _) _).alloc (by simp) _)
  have P0 := Lib.hid (show Row w0 w.heap.size 49 #[.int .i64 p.op, .int .i64 p.n, .string p.s, .string p.t, .slice A0 p.kids.length c0] by rw [e0]; exact (Row.new' _ _ _ rfl).alloc _)
  have G0 := Lib.hid (show Grx X w0 (w.heap.size + 1) 29 1 (.slice (some ⟨w.heap.size + 1, 0, none⟩) 0 0) 0 [] from Grx.made (by rw [e0]; exact Row.new' _ _ _ (by simp)) (Nat.le_refl _))
  have hs0 : w.heap.size + 1 ≤ w0.heap.size := by rw [e0]; simp
  clear hX hs hn
  go_enter Try.func178, Try.ntmps178
  go_wp2_with fail
  rw [← e0]
  clear e0
  go_loopw [5, 11] (fun v i wr => ∃ (j m : Nat) (A : Option Addr) (c : Nat), j ≤ rows.length ∧ i = .int .i64 j ∧ v = .slice A m c ∧ m ≤ j ∧ Hid (Grx X wr (w.heap.size + 1) 29 1 (.slice A m c) m ((intoR p (rows.take j)).map rowD)) ∧ Hid (Row wr w.heap.size 49 #[.int .i64 p.op, .int .i64 p.n, .string p.s, .string p.t, .slice A0 p.kids.length c0]) ∧ w.heap.size + 1 ≤ wr.heap.size ∧ Hid (Below w.heap.size w wr)) (fun _ i _ => rows.length - (intOf i).toNat)
  case atStart => exact ⟨0, 0, _, _, by omega, by go_num, rfl, by omega, G0, P0, hs0, E0⟩
  case round =>
    clear G0 P0 hs0 E0
    obtain ⟨j, m, A', c', hj, rfl, rfl, hm, HG, HP, hz1, HB⟩ := hrel
    have hsz := HB.out.size
    by_cases hlt : j < rows.length
    · obtain ⟨b, off, A1, c1, rfl, hSb, g0, hs1⟩ := rowD_elem (HS.out.stay HB.out) j hlt
      have hnj := HN.out _ (List.getElem_mem hlt)
      obtain ⟨q, t, hqt⟩ := List.exists_cons_of_length_pos hnj.1
      have HTJ := Lib.hid (HT.out j hlt)
      rw [hqt] at g0 hs1 hnj
      rw [List.length_cons] at g0 hnj
      have htM : t.length + M ≤ 1099511627776 := by omega
      obtain ⟨b1, off1, A2, c2, rfl, hSb1, hlc, hcm, q0, q1, q2, q3, q4, hat, -, -⟩ := row_head hs1
      have HTL := Lib.hid (rowTail hs1)
      have HKL := Lib.hid hat.2.2.2.2
      have htl := HR.out b1 off1 t.length c1 (by omega)
      have HQ := Lib.hid hqt
      clear hqt hat hs1 hnj
      go_wp2_with fail
      refine (implIsAny q A2 c2 _).mono ?_
      rintro e w2 ⟨rfl, hb2⟩
      have HB2 := Lib.hid (HB.out.trans (hb2.mono hsz))
      have HG2 := Lib.hid (HG.out.below hb2)
      have HP2 := Lib.hid (HP.out.below hb2 (by omega))
      have HTL2 := Lib.hid (HTL.out.keep (w' := w2) (S' := Lx X w) fun b hb => ⟨hb, hb2.block b (Nat.lt_of_lt_of_le hb.1 hsz)⟩)
      have HKL2 := Lib.hid (HKL.out.keep (w' := w2) (S' := Lx X w) fun b hb => ⟨hb, hb2.block b (Nat.lt_of_lt_of_le hb.1 hsz)⟩)
      have hs2 := HB2.out.size
      have hz2 := Nat.le_trans hz1 hb2.size
      have hcp := fun i => HP2.out.cell i
      have k0 := (hb2.cell (p := ⟨b1, off1, none⟩) (Nat.lt_of_lt_of_le hSb1.1 hsz)).trans q0
      have k1 := (hb2.cell (p := ⟨b1, off1 + 1, none⟩) (Nat.lt_of_lt_of_le hSb1.1 hsz)).trans q1
      have k2 := (hb2.cell (p := ⟨b1, off1 + 2, none⟩) (Nat.lt_of_lt_of_le hSb1.1 hsz)).trans q2
      have k3 := (hb2.cell (p := ⟨b1, off1 + 3, none⟩) (Nat.lt_of_lt_of_le hSb1.1 hsz)).trans q3
      have k4 := (hb2.cell (p := ⟨b1, off1 + 4, none⟩) (Nat.lt_of_lt_of_le hSb1.1 hsz)).trans q4
      clear hb2 q0 q1 q2 q3 q4 HTL HKL HG HP HB g0
      cases hq : isAnyB q
      · have hc : intoR p (rows.take (j + 1)) = intoR p (rows.take j) ++ (if alikeB q p = true then some (q.kids ++ t) else none).toList := by rw [HTJ.out, HQ.out, into1_cons, if_neg (by rw [hq]; simp)]
        have HC := Lib.hid hc
        have HAL := Lib.hid (implAlike q p A2 c2 A0 c0 w2.drew)
        clear hq hc
        go_wp2_with fail
        go_region_held3 (fun w' => (∀ i, w'.cell? ⟨w.heap.size, i, none⟩ = (#[.int .i64 p.op, .int .i64 p.n, .string p.s, .string p.t, .slice A0 p.kids.length c0] : Array Value)[i]?) ∧ w'.cell? ⟨b1, off1, none⟩ = some (.int .i64 q.op) ∧ w'.cell? ⟨b1, off1 + 1, none⟩ = some (.int .i64 q.n) ∧ w'.cell? ⟨b1, off1 + 2, none⟩ = some (.string q.s) ∧ w'.cell? ⟨b1, off1 + 3, none⟩ = some (.string q.t) ∧ w'.cell? ⟨b1, off1 + 4, none⟩ = some (.slice A2 q.kids.length c2)) (first | exact ⟨hcp, k0, k1, k2, k3, k4⟩ | exact ⟨hcp3, l0, l1, l2, l3, l4⟩) (first
          | (go_at_call 240
             go_must (
               refine HAL.out.mono ?_
               rintro e w3 ⟨rfl, hb3⟩
               have E3 := Lib.hid (((Below.refl w2.heap.size w2).drew).trans hb3)
               have HP3 := Lib.hid (HP2.out.below E3.out (by omega))
               have hcp3 := fun i => HP3.out.cell i
               have l0 := (E3.out.cell (p := ⟨b1, off1, none⟩) (Nat.lt_of_lt_of_le hSb1.1 hs2)).trans k0
               have l1 := (E3.out.cell (p := ⟨b1, off1 + 1, none⟩) (Nat.lt_of_lt_of_le hSb1.1 hs2)).trans k1
               have l2 := (E3.out.cell (p := ⟨b1, off1 + 2, none⟩) (Nat.lt_of_lt_of_le hSb1.1 hs2)).trans k2
               have l3 := (E3.out.cell (p := ⟨b1, off1 + 3, none⟩) (Nat.lt_of_lt_of_le hSb1.1 hs2)).trans k3
               have l4 := (E3.out.cell (p := ⟨b1, off1 + 4, none⟩) (Nat.lt_of_lt_of_le hSb1.1 hs2)).trans k4
               clear hb3)))
        all_goals
          clear k0 k1 k2 k3 k4 l0 l1 l2 l3 hcp3 hcp
          have HG3 := Lib.hid (HG2.out.below E3.out)
          have HB3 := Lib.hid (HB2.out.trans (E3.out.mono hs2))
          have hs3 := HB3.out.size
          have hz3 := Nat.le_trans hz2 E3.out.size
          have HTL3 := Lib.hid (HTL2.out.keep (w' := w3) (S' := fun b => b < w3.heap.size ∧ Xo (Value.slice A' m c') X b) fun b hb => ⟨⟨Nat.lt_of_lt_of_le hb.1 hs3, fun e => by have := (HG2.out.own b e).1; have := hb.1; omega, hb.2⟩, E3.out.block b (Nat.lt_of_lt_of_le hb.1 hs2)⟩)
          have HKL3 := Lib.hid (HKL2.out.keep (w' := w3) (S' := fun b => b < w3.heap.size ∧ Xo (Value.slice A' m c') X b) fun b hb => ⟨⟨Nat.lt_of_lt_of_le hb.1 hs3, fun e => by have := (HG2.out.own b e).1; have := hb.1; omega, hb.2⟩, E3.out.block b (Nat.lt_of_lt_of_le hb.1 hs2)⟩)
          have HXb := Lib.hid (Xo.mk (X := X) (v := Value.slice A' m c') (n := w3.heap.size) (fun g hg => (HG3.out.own g hg).2) (fun b hb => HX.out b (Nat.le_trans hs3 hb)))
          cases hal : alikeB q p
          · have HV := Lib.hid (show intoR p (rows.take (j + 1)) = intoR p (rows.take j) by rw [HC.out, hal]; simp)
            clear hal
            go_wp2_with fail
            go_roundw
            case rel => exact ⟨j + 1, m, A', c', by omega, by go_num, rfl, by omega, Lib.hid (by rw [HV.out]; exact HG3.out), HP3, hz3, HB3⟩
            case measure => simp [intOf]; omega
          · have HV := Lib.hid (show intoR p (rows.take (j + 1)) = intoR p (rows.take j) ++ [q.kids ++ t] by rw [HC.out, hal]; simp)
            have hkl : q.kids.length ≤ M := by
              rw [alikeB_def] at hal
              simp only [Bool.and_eq_true, beq_iff_eq] at hal
              omega
            have HLL := Lib.hid (show (q.kids ++ t).length = q.kids.length + t.length by simp)
            clear hal
            go_wp2_with fail
            go_region_law (first
              | (rw [← e8]
                 refine step_append_X w8 rfl (.tmp 37) (.tmp 46) 37 rfl 29 zRow 1 24 Try.underlying37 (by kernel_rfl) rfl (by omega) (w.heap.size + 1) (.slice A' m c') m _ G8.out (some ⟨w7.heap.size, 0, none⟩) 1 1 _ rfl T8.out hs8 (by unfold maxLen; omega) (by omega) rfl rfl ?_
                 intro A4 c4 w4 G4 hGr4
                 have G4h := Lib.hid G4
                 have B4 := Lib.hid (HB8.out.trans (hGr4.below (by omega) (fun g hg => (by have := (G8.out.own g hg).1; omega))))
                 have P4 := Lib.hid (hGr4.row P8.out (fun e => by have := (G8.out.own _ e).1; omega))
                 have hz4 := Nat.le_trans hs8 hGr4.size
                 clear G4 hGr4)
              | (go_simp
                 go_at_call 179
                 go_must (
                   obtain ⟨w6, e6⟩ : ∃ w6, w6 = (w3.alloc (.cells #[.slice A2 q.kids.length c2, .slice (tailA b1 off1 5 c1) t.length (c1 - 1)] 29)).drew := ⟨_, rfl⟩
                   have E6 := Lib.hid (show Below w3.heap.size w3 w6 by rw [e6]; exact ((Below.refl _ _).alloc (Nat.le_refl _) _).drew)
                   have S6 := Lib.hid (slTwoRows (X := Xo (Value.slice A' m c') X) (w := w3) (w' := w6) (g := w3.heap.size) (T := 29) (r1 := q.kids) (r2 := t) (by rw [e6]; exact Row.new w3 _ _) (HXb.out _ (Nat.le_refl _)) (Sl.lx HKL3.out E6.out) (Sl.lx HTL3.out E6.out))
                   have HB6 := Lib.hid (HB3.out.trans (E6.out.mono hs3))
                   have hs6 := HB6.out.size
                   have hz6 := Nat.le_trans hz3 E6.out.size
                   rw [← e6]
                   refine (implConcat (Xo (Value.slice A' m c') X) [q.kids, t] (some ⟨w3.heap.size, 0, none⟩) 2 w6 (fun b hb => HXb.out b (Nat.le_trans E6.out.size hb)) ?_ S6.out).mono ?_
                   · simp; omega
                   rintro e w7 ⟨A7, c7, rfl, hs7, hb7⟩
                   rw [show [q.kids, t].flatten = q.kids ++ t by simp] at hs7 ⊢
                   have G7 := Lib.hid ((HG3.out.below E6.out).below hb7)
                   have HB7 := Lib.hid (HB6.out.trans (hb7.mono hs6))
                   have hs77 := HB7.out.size
                   have P7 := Lib.hid ((HP3.out.below E6.out (by omega)).below hb7 (by omega))
                   obtain ⟨w8, e8⟩ : ∃ w8, w8 = w7.alloc (.cells #[.slice A7 (q.kids.length + t.length) c7] 29) := ⟨_, rfl⟩
                   have E8 := Lib.hid (show Below w7.heap.size w7 w8 by rw [e8]; exact (Below.refl _ _).alloc (Nat.le_refl _) _)
                   have hs8 := Nat.le_trans (Nat.le_trans hz6 hb7.size) E8.out.size
                   have e8x : w8 = w7.alloc (.cells #[.slice A7 (q.kids ++ t).length c7] 29) := by rw [e8, HLL.out]
                   have T8 := Lib.hid (oneRow (X := X) (Value.slice A' m c') (fun g hg => (G7.out.own g hg).2) (HX.out _ hs77) e8x hs7)
                   have G8 := Lib.hid (G7.out.below E8.out)
                   have P8 := Lib.hid (P7.out.below E8.out (by have := hb7.size; omega))
                   have HB8 := Lib.hid (HB7.out.trans (E8.out.mono hs77))
                   clear hs7 hb7 e8x)))
            all_goals
              go_wp2_with fail
              go_roundw
              case rel => exact ⟨j + 1, m + 1, A4, c4, by omega, by go_num, rfl, by omega, Lib.hid (by rw [HV.out, List.map_append]; exact G4h.out), P4, hz4, B4⟩
              case measure => simp [intOf]; omega
      · have HV := Lib.hid (show intoR p (rows.take (j + 1)) = intoR p (rows.take j) ++ [List.replicate p.kids.length anyN ++ t] by rw [HTJ.out, HQ.out, into1_cons, if_pos hq]; simp)
        have hll : (List.replicate p.kids.length anyN ++ t).length = p.kids.length + t.length := by simp
        have HLL := Lib.hid hll
        have HX2 := Lib.hid (show ∀ b, w2.heap.size ≤ b → (Value.slice A' m c').ownBlock ≠ some b ∧ X b from fun b hb => ⟨fun e => by have := (HG2.out.own b e).2; omega, HX.out b (Nat.le_trans hs2 hb)⟩)
        have HT2 := Lib.hid (show Sl w2 (fun b => b < w2.heap.size ∧ (Value.slice A' m c').ownBlock ≠ some b ∧ X b) 5 (tailA b1 off1 5 c1) (c1 - 1) (t.map GNode.toD) from HTL2.out.keep fun b hb => ⟨⟨Nat.lt_of_lt_of_le hb.1 hs2, fun e => by have := (HG2.out.own b e).1; have := hb.1; omega, hb.2⟩, rfl⟩)
        clear hq hll
        go_wp2_with fail
        go_region_law (first
          | (rw [← e8]
             refine step_append_X w8 rfl (.tmp 20) (.tmp 29) 37 rfl 29 zRow 1 24 Try.underlying37 (by kernel_rfl) rfl (by omega) (w.heap.size + 1) (.slice A' m c') m _ G8.out (some ⟨w7.heap.size, 0, none⟩) 1 1 _ rfl T8.out hs8 (by unfold maxLen; omega) (by omega) rfl rfl ?_
             intro A4 c4 w4 G4 hGr4
             have G4h := Lib.hid G4
             have B4 := Lib.hid (HB8.out.trans (hGr4.below (by omega) (fun g hg => (by have := (G8.out.own g hg).1; omega))))
             have P4 := Lib.hid (hGr4.row P8.out (fun e => by have := (G8.out.own _ e).1; omega))
             have hz4 := Nat.le_trans hs8 hGr4.size
             clear G4 hGr4)
          | (go_simp
             go_at_call 182
             go_must (
               refine (implAnything (fun b => (Value.slice A' m c').ownBlock ≠ some b ∧ X b) p.kids.length w2.drew HX2.out (by omega)).mono ?_
               rintro e w5 ⟨A5, c5, rfl, hs5, hb5⟩
               have E5 := Lib.hid (((Below.refl w2.heap.size w2).drew).trans hb5)
               have HB5 := Lib.hid (HB2.out.trans (E5.out.mono hs2))
               have hs55 := HB5.out.size
               obtain ⟨w6, e6⟩ : ∃ w6, w6 = w5.alloc (.cells #[.slice A5 p.kids.length c5, .slice (tailA b1 off1 5 c1) t.length (c1 - 1)] 29) := ⟨_, rfl⟩
               have E6 := Lib.hid (show Below w5.heap.size w5 w6 by rw [e6]; exact (Below.refl _ _).alloc (Nat.le_refl _) _)
               have hs6 := Nat.le_trans hs55 E6.out.size
               have HB6 := Lib.hid (HB5.out.trans (E6.out.mono hs55))
               have S6 := Lib.hid (slTwoRows (X := fun b => (Value.slice A' m c').ownBlock ≠ some b ∧ X b) (w := w5) (w' := w6) (g := w5.heap.size) (T := 29) (r1 := List.replicate p.kids.length anyN) (r2 := t) (by rw [e6, List.length_replicate]; exact Row.new' _ _ _ rfl) (HX2.out _ E5.out.size) (hs5.lx E6.out) ((HT2.out.lx E5.out).lx E6.out))
               have G6 := Lib.hid ((HG2.out.below E5.out).below E6.out)
               have P6 := Lib.hid ((HP2.out.below E5.out (by omega)).below E6.out (by have := E5.out.size; omega))
               have hz6 := Nat.le_trans hz2 (Nat.le_trans E5.out.size E6.out.size)
               clear hs5 hb5))
          | (go_simp
             go_at_call 179
             go_must (
               rw [← e6]
               refine (implConcat (fun b => (Value.slice A' m c').ownBlock ≠ some b ∧ X b) [List.replicate p.kids.length anyN, t] (some ⟨w5.heap.size, 0, none⟩) 2 w6 (fun b hb => HX2.out b (Nat.le_trans (Nat.le_trans E5.out.size E6.out.size) hb)) (by have := HLL.out; simp at this ⊢; omega) S6.out).mono ?_
               rintro e w7 ⟨A7, c7, rfl, hs7, hb7⟩
               rw [show [List.replicate p.kids.length anyN, t].flatten = List.replicate p.kids.length anyN ++ t by simp] at hs7 ⊢
               have G7 := Lib.hid (G6.out.below hb7)
               have HB7 := Lib.hid (HB6.out.trans (hb7.mono hs6))
               have hs77 := HB7.out.size
               have P7 := Lib.hid (P6.out.below hb7 (by omega))
               obtain ⟨w8, e8⟩ : ∃ w8, w8 = w7.alloc (.cells #[.slice A7 (p.kids.length + t.length) c7] 29) := ⟨_, rfl⟩
               have E8 := Lib.hid (show Below w7.heap.size w7 w8 by rw [e8]; exact (Below.refl _ _).alloc (Nat.le_refl _) _)
               have hs8 := Nat.le_trans (Nat.le_trans hz6 hb7.size) E8.out.size
               have e8x : w8 = w7.alloc (.cells #[.slice A7 (List.replicate p.kids.length anyN ++ t).length c7] 29) := by rw [e8, HLL.out]
               have T8 := Lib.hid (oneRow (X := X) (Value.slice A' m c') (fun g hg => (G7.out.own g hg).2) (HX.out _ hs77) e8x hs7)
               have G8 := Lib.hid (G7.out.below E8.out)
               have P8 := Lib.hid (P7.out.below E8.out (by have := hb7.size; omega))
               have HB8 := Lib.hid (HB7.out.trans (E8.out.mono hs77))
               clear hs7 hb7)))
        all_goals
          go_wp2_with fail
          go_roundw
          case rel => exact ⟨j + 1, m + 1, A4, c4, by omega, by go_num, rfl, by omega, Lib.hid (by rw [HV.out, List.map_append]; exact G4h.out), P4, hz4, B4⟩
          case measure => simp [intOf]; omega
    · have hje : j = rows.length := by omega
      have HLE := Lib.hid (show rows.take j = rows by rw [hje, List.take_length])
      clear hje
      go_wp2_with fail
      go_ret
      have hG := HG.out
      rw [HLE.out] at hG
      obtain ⟨A5, c5, e5, hs5⟩ := hG.sl (fun b hb => HX.out b (by omega))
      have hl5 := hG.1
      obtain ⟨rfl, rfl⟩ : A' = A5 ∧ c' = c5 := by simpa using e5
      exact ⟨A', c', ret_sl (by rw [← hl5]; simp), hs5, HB.out⟩
end Go.Proofs.Ytgbcdfeflgnogaa
