/- Coverage: is a row useful behind others, in the reference. Conditions: the sizes are bounded. -/
import Derived.Test.YtgbcdfeflgnogaaCoverU
namespace Go.Proofs.Ytgbcdfeflgnogaa
open Go.RowKit
set_option linter.unusedVariables false
set_option linter.unusedSimpArgs false
set_option maxHeartbeats 1000000

set_option maxRecDepth 20000 in
theorem specUseful (ds : List GData) (A0 : Option Addr) (c0 g : Nat) (hM : ∀ d ∈ ds, d.cons.length ≤ 1048576 ∧ ∀ k ∈ d.cons, k.args.length ≤ 1048576) : ∀ (f s : Nat) (rows : List (List GNode)) (row : List GNode) (A : Option Addr) (c : Nat) (A2 : Option Addr) (c2 : Nat) (w : World), 4001 ≤ f + s → s ≤ 4000 → rows.length ≤ 1048576 → row.length ≤ (s + 1) * 1048576 → RowsB 1048576 row.length rows → (∀ x ∈ row, nodeB 1048576 x) →
    Row w g 130 #[.slice A0 ds.length c0, .int .i64 (s : Int)] → Sl w (Lx (Ng g) w) 3 A0 c0 (ds.map GData.toD) → Sl w (Lx (Ng g) w) 1 A c (rows.map rowD) → Sl w (Lx (Ng g) w) 5 A2 c2 (row.map GNode.toD) →
    Calls Try.prog 94 #[.pointer (some ⟨g, 0, none⟩), .slice A rows.length c, .slice A2 row.length c2] w (UseTo 130 g (.slice A0 ds.length c0) (useF ds f s rows row) w) := by
  intro f
  induction f with
  | zero => intros; omega
  | succ f ih =>
    intro s rows row A c A2 c2 w hf hs hrl hwl hRB hNB hR hds hrs hws
    have HR := Lib.hid hR
    have hcg := fun i => hR.cell i
    have hfg := fun i => hR.frozen i
    have hgl := hR.lt
    obtain ⟨w1, e1⟩ : ∃ w1, w1 = w.setCell ⟨g, 1, none⟩ (.int .i64 ((s : Int) + 1)) := ⟨_, rfl⟩
    have R1 := Lib.hid (show Row w1 g 130 #[.slice A0 ds.length c0, .int .i64 ((s + 1 : Nat) : Int)] by rw [e1]; exact hR.set 1 (.int .i64 ((s : Int) + 1)))
    have T1 := Lib.hid (show Turned g w w1 by rw [e1]; exact (Turned.refl g w).setCell 1 _)
    have D1 := Lib.hid (hds.turned T1.out)
    have S1 := Lib.hid (hrs.turned T1.out)
    have W1 := Lib.hid (hws.turned T1.out)
    have hc1 := fun i => R1.out.cell i
    have HRB := Lib.hid hRB
    have HNB := Lib.hid hNB
    have IH := Lib.hid ih
    have HM := Lib.hid hM
    have hrlm : rows.length ≤ 9223372036854775807 := by omega
    clear hR hds hrs hws hRB hNB ih hM
    by_cases ho : 4000 < s + 1
    · obtain rfl : s = 4000 := by omega
      have HV := Lib.hid (useF_over (ds := ds) (f := f + 1) (rows := rows) (row := row) ho)
      clear ho
      go_enter Try.func94, Try.ntmps94
      go_wp2_with fail
      go_ret
      rw [HV.out]
      refine ⟨rfl, ?_, ?_⟩
      · have := R1.out; rw [e1] at this; exact this
      · have := T1.out; rw [e1] at this; exact this
    · have hov : ¬ (4000 < (s : Int) + 1) := by omega
      have hs1 : s + 1 ≤ 4000 := by omega
      cases row with
      | nil =>
        have HV := Lib.hid (useF_nil (ds := ds) (f := f) (rows := rows) ho)
        have HE := Lib.hid (show rows.isEmpty = (((rows.length : Nat) : Int) == 0) by
          cases rows with
          | nil => rfl
          | cons a b => simp only [List.isEmpty_cons, List.length_cons]; exact (beq_eq_false_iff_ne.2 (by omega)).symm)
        clear ho
        go_enter Try.func94, Try.ntmps94
        go_wp2_with fail
        go_ret
        rw [HV.out]
        refine ⟨ret_bool (by rw [HE.out]), ?_, ?_⟩
        · have := R1.out; rw [e1] at this; exact this
        · have := T1.out; rw [e1] at this; exact this
      | cons p t =>
        obtain ⟨b1, off1, A3, c3, rfl, hSb1, hlc, hcm, q0, q1, q2, q3, q4, hat, -, -⟩ := row_head W1.out
        have HTL := Lib.hid (rowTail W1.out)
        have HKL := Lib.hid hat.2.2.2.2
        have hpM : p.kids.length ≤ 1048576 := (HNB.out p (by simp)).len
        have hwl2 : t.length + 1 ≤ (s + 1) * 1048576 := by simpa using hwl
        have HNR := Lib.hid (show ∀ r ∈ rows, 0 < r.length ∧ r.length + 1048576 ≤ 1099511627776 from fun r hr => by have := (HRB.out r hr).1; simp at this; omega)
        have HRBI := Lib.hid (fun (x : GNode) => (show RowsB 1048576 (t.length + 1) rows from HRB.out).into x)
        have HRBR := Lib.hid ((show RowsB 1048576 (t.length + 1) rows from HRB.out).rest)
        have HNT := Lib.hid (show ∀ x ∈ t, nodeB 1048576 x from fun x hx => HNB.out x (by simp [hx]))
        have HNK := Lib.hid (HNB.out p (by simp)).kids
        have htl := fun (wx : World) => run_tail (P := Try.prog) 29 49 5 Try.underlying29 (by kernel_rfl) b1 off1 t.length c2 (by omega) wx
        obtain ⟨w2, e2⟩ : ∃ w2, w2 = w1.alloc (.cells #[.int .i64 p.op, .int .i64 p.n, .string p.s, .string p.t, .slice A3 p.kids.length c3] 49) := ⟨_, rfl⟩
        have E2 := Lib.hid (show Below w1.heap.size w1 w2 by rw [e2]; exact (Below.refl _ _).alloc (Nat.le_refl _) _)
        have P2 := Lib.hid (show Row w2 w.heap.size 49 #[.int .i64 p.op, .int .i64 p.n, .string p.s, .string p.t, .slice A3 p.kids.length c3] by rw [e2]; exact Row.new' _ _ _ (by rw [e1]; simp [World.setCell]))
        have EQ1 := Lib.hid e1
        have EQ2 := Lib.hid e2
        have g1 : w.heap.size = w1.heap.size := by rw [e1]; simp [World.setCell]
        rw [e1] at q0 q1 q2 q3 q4
        have G1 := Lib.hid g1
        clear hat e1 e2 hc1 hwl g1
        have T3 := Lib.hid (T1.out.ofBelow E2.out)
        have E3 := Lib.hid E2.out
        have hgl1 : g < w1.heap.size := by rw [← G1.out]; exact hgl
        have R3 := Lib.hid (R1.out.below E3.out hgl1)
        have P3 := Lib.hid P2.out
        have hgl3 := R3.out.lt
        have HROWS := Lib.hid (fun (wx : World) (hb : Below w2.heap.size w2 wx) => (S1.out.lx E3.out).lx hb)
        have HDS := Lib.hid (fun (wx : World) (hb : Below w2.heap.size w2 wx) => (D1.out.lx E3.out).lx hb)
        have HKT := Lib.hid (fun (wx : World) (hb : Below w2.heap.size w2 wx) => (HKL.out.lx E3.out).lx hb)
        have HTT := Lib.hid (fun (wx : World) (hb : Below w2.heap.size w2 wx) => (HTL.out.lx E3.out).lx hb)
        have HNG := Lib.hid (fun (wx : World) (hb : Below w2.heap.size w2 wx) (b : Nat) (h : wx.heap.size ≤ b) => show Ng g b from fun e => by have := hb.size; omega)
        have HRG := Lib.hid (fun (wx : World) (hb : Below w2.heap.size w2 wx) => R3.out.below hb hgl3)
        have HPP := Lib.hid (fun (wx : World) (hb : Below w2.heap.size w2 wx) => P3.out.below hb P3.out.lt)
        have HTN := Lib.hid (fun (wx : World) (hb : Below w2.heap.size w2 wx) => T3.out.ofBelow hb)
        have hcp := fun i => P3.out.cell i
        have hcps := fun i => P3.out.cell i
        rw [EQ2.out, EQ1.out] at hcps
        clear HTL HKL P2 P3
        cases hp : isAnyB p
        · have HV := Lib.hid (useF_con (ds := ds) (f := f) (rows := rows) (t := t) ho hp)
          have hc : (p.op == 20) = true ∨ ((p.op == 20) = false ∧ (p.op == 19) = true) := by
            cases h1 : (p.op == 20)
            · cases h2 : (p.op == 19)
              · rw [isAny_ne h1 h2] at hp; cases hp
              · exact .inr ⟨rfl, rfl⟩
            · exact .inl rfl
          have HUS := Lib.hid (fun (wx : World) (A5 : Option Addr) (c5 : Nat) (A7 : Option Addr) (c7 : Nat) (hb : Below w2.heap.size w2 wx) (h1 : Sl wx (Lx (Ng g) wx) 1 A5 c5 ((intoR p rows).map rowD)) (h2 : Sl wx (Lx (Ng g) wx) 5 A7 c7 ((p.kids ++ t).map GNode.toD)) =>
            show Calls Try.prog 94 #[.pointer (some ⟨g, 0, none⟩), .slice A5 (intoR p rows).length c5, .slice A7 (p.kids.length + t.length) c7] wx (UseTo 130 g (.slice A0 ds.length c0) (useF ds f (s + 1) (intoR p rows) (p.kids ++ t)) wx) from by
              have h := IH.out (s + 1) (intoR p rows) (p.kids ++ t) A5 c5 A7 c7 wx (by omega) hs1 (Nat.le_trans intoR_len hrl) (by simp; omega) (by rw [List.length_append]; exact HRBI.out p) (fun x hx => by
                rcases List.mem_append.1 hx with h | h
                · exact HNK.out x h
                · exact HNT.out x h) (HRG.out _ hb) (HDS.out _ hb) h1 h2
              rw [List.length_append] at h
              exact h)
          obtain ⟨w4, e4⟩ : ∃ w4, w4 = w2.alloc (.cells #[] 49) := ⟨_, rfl⟩
          have E4 := Lib.hid (show Below w2.heap.size w2 w4 by rw [e4]; exact (Below.refl _ _).alloc (Nat.le_refl _) _)
          have hw2 : w2.heap.size = w.heap.size + 1 := by rw [EQ2.out, EQ1.out]; simp [World.setCell]
          have HW2 := Lib.hid hw2
          have G4 := Lib.hid (show Grx (Ng g) w4 w2.heap.size 49 5 (.slice (some ⟨w.heap.size + 1, 0, none⟩) 0 0) 0 [] from Grx.made (by rw [e4]; exact Row.new' _ _ _ hw2.symm) (by omega))
          have hs4 := E4.out.size
          have K4 := Lib.hid (show Sl w4 (fun b => b < w4.heap.size ∧ (Value.slice (some ⟨w.heap.size + 1, 0, none⟩) 0 0).ownBlock ≠ some b ∧ Ng g b) 5 A3 c3 (p.kids.map GNode.toD) from
            (HKT.out _ (Below.refl _ _)).keep fun b hb => ⟨⟨Nat.lt_of_lt_of_le hb.1 hs4, fun e => by simp [Value.ownBlock] at e; have := hb.1; omega, hb.2⟩, E4.out.block b hb.1⟩)
          have kp4 := fun i => (HPP.out _ E4.out).cell i
          rw [e4, EQ2.out, EQ1.out] at kp4
          have hkm : p.kids.length ≤ 9223372036854775807 := by omega
          have HC := Lib.hid hc
          clear hp hw2 hcp hc
          rcases HC.out with h20 | ⟨h20, h19⟩
          all_goals
            clear HC
            go_enter Try.func94, Try.ntmps94
            go_wp2_with (first
              | (at_builtin; rw [← EQ1.out, ← EQ2.out, ← e4]; refine wpList_append_X w4 rfl (.tmp 41) (.tmp 43) 29 rfl 49 zNode 5 72 Try.underlying29 (by kernel_rfl) rfl (by omega) w2.heap.size (.slice (some ⟨w.heap.size + 1, 0, none⟩) 0 0) 0 _ G4.out A3 c3 p.kids.length _ (by simp) K4.out hs4 (by unfold maxLen; omega) (by omega) rfl rfl ?_
                 intro An cn w5 Gn hGr5
                 rw [Nat.zero_add] at Gn hGr5 ⊢
                 have G5 := Lib.hid (show Grx (Ng g) w5 w2.heap.size 49 5 (.slice An p.kids.length cn) p.kids.length (p.kids.map GNode.toD) from Gn)
                 have E5 := Lib.hid (show Below w2.heap.size w2 w5 from E4.out.trans (hGr5.below hs4 (fun g hg => by have := HW2.out; simp [Value.ownBlock] at hg; omega)))
                 have hs5 := E5.out.size
                 have V5 := Lib.hid (fun b (hb : (Value.slice An p.kids.length cn).ownBlock = some b) => G5.out.own b hb)
                 have X5 := Lib.hid (Xo.mk (v := Value.slice An p.kids.length cn) (X := Ng g) (n := w5.heap.size) (fun b hb => (V5.out b hb).2) (fun b hb => HNG.out _ E5.out b hb))
                 have hcp := fun i => (HPP.out _ E5.out).cell i
                 clear Gn hGr5))
            clear kp4 hcps q0 q1 q2 q3 q4
            have D5 := Lib.hid (show Below w2.heap.size w2 w5.drew from E5.out.drew)
            have TT5 := Lib.hid (fun (wx : World) (hb : Below w2.heap.size w2 wx) => show Sl wx (fun b => b < wx.heap.size ∧ (Value.slice An p.kids.length cn).ownBlock ≠ some b ∧ Ng g b) 5 (tailA b1 off1 5 c2) (c2 - 1) (t.map GNode.toD) from
              (HTT.out w2 (Below.refl _ _)).keep fun b hb' => ⟨⟨Nat.lt_of_lt_of_le hb'.1 hb.size, fun e => by have := (V5.out b e).1; have := hb'.1; omega, hb'.2⟩, hb.block b hb'.1⟩)
            have RR5 := Lib.hid (show Sl w5.drew (Lx (Xo (Value.slice An p.kids.length cn) (Ng g)) w5.drew) 1 A c (rows.map rowD) from
              (HROWS.out w2 (Below.refl _ _)).keep fun b hb' => ⟨⟨Nat.lt_of_lt_of_le hb'.1 hs5, fun e => by have := (V5.out b e).1; have := hb'.1; omega, hb'.2⟩, E5.out.block b hb'.1⟩)
            have GD5 := Lib.hid (G5.out.below (show Below w5.heap.size w5 w5.drew from (Below.refl _ _).drew))
            go_region_held3 (fun w' => ∀ i, w'.cell? ⟨w.heap.size, i, none⟩ = (#[.int .i64 p.op, .int .i64 p.n, .string p.s, .string p.t, .slice A3 p.kids.length c3] : Array Value)[i]?) (first | exact hcp | exact kz | exact kx1 | exact kx2 | exact ky1 | exact ky2) (first
              | (go_at_call 172
                 refine (specInto (Xo (Value.slice An p.kids.length cn) (Ng g)) 1048576 p A3 c3 rows A c w5.drew X5.out hrl HNR.out hpM RR5.out).mono ?_
                 rintro e x1 ⟨AA1, cc1, rfl, hs1x, hb1x⟩
                 have Bx1 := Lib.hid (D5.out.trans (hb1x.mono D5.out.size))
                 have OP1 := Lib.hid hs1x
                 have Gx1 := Lib.hid (GD5.out.below hb1x)
                 have kx1 := fun i => (HPP.out _ Bx1.out).cell i
                 have hx1 := Bx1.out.size
                 have Tx1 := Lib.hid (TT5.out x1 Bx1.out)
                 clear hs1x hb1x)
              | (refine step_append_X x1 rfl (.tmp 49) (.tmp 51) 29 rfl 49 zNode 5 72 Try.underlying29 (by kernel_rfl) rfl (by omega) w2.heap.size (.slice An p.kids.length cn) p.kids.length _ Gx1.out (tailA b1 off1 5 c2) (c2 - 1) t.length _ (by simp) Tx1.out hx1 (by unfold maxLen; omega) (by omega) rfl rfl ?_
                 intro AA2 cc2 x2 G2 hGr2
                 have Bx2 := Lib.hid (Bx1.out.trans (hGr2.below hx1 (fun b hb => (V5.out b hb).1)))
                 have CO2 := Lib.hid (show Sl x2 (Lx (Ng g) x2) 5 AA2 cc2 ((p.kids ++ t).map GNode.toD) from by
                   rw [← List.map_append] at G2
                   obtain ⟨A4, c4, e4, h4⟩ := G2.sl (X := Ng g) (fun b hb => HNG.out w2 (Below.refl _ _) b hb)
                   obtain ⟨rfl, rfl⟩ : AA2 = A4 ∧ cc2 = c4 := by simpa using e4
                   exact h4)
                 have OP2 := Lib.hid (show Sl x2 (Lx (Ng g) x2) 1 AA1 cc1 ((intoR p rows).map rowD) from OP1.out.keep fun b hb => ⟨⟨Nat.lt_of_lt_of_le hb.1 hGr2.size, hb.2.2⟩, hGr2.grow.block b hb.1 fun e => hb.2.1 e.symm⟩)
                 have kx2 := fun i => (HPP.out _ Bx2.out).cell i
                 clear G2 hGr2)
              | (go_at_call 94
                 with_reducible refine (HUS.out x2 AA1 cc1 AA2 cc2 Bx2.out OP2.out CO2.out).mono ?_
                 rintro e w9 ⟨rfl, hR9, hT9⟩
                 have R9 := Lib.hid hR9
                 have kz := fun i => ((HPP.out _ Bx2.out).turned hT9 (by omega)).cell i
                 have T9 := Lib.hid ((HTN.out _ Bx2.out).trans hT9)
                 clear hR9 hT9)
              | (refine step_append_X w5.drew rfl (.tmp 49) (.tmp 51) 29 rfl 49 zNode 5 72 Try.underlying29 (by kernel_rfl) rfl (by omega) w2.heap.size (.slice An p.kids.length cn) p.kids.length _ GD5.out (tailA b1 off1 5 c2) (c2 - 1) t.length _ (by simp) (TT5.out _ D5.out) hs5 (by unfold maxLen; omega) (by omega) rfl rfl ?_
                 intro AA3 cc3 y1 G3 hGr3
                 have By1 := Lib.hid (D5.out.trans (hGr3.below hs5 (fun b hb => (V5.out b hb).1)))
                 have CO3 := Lib.hid (show Sl y1 (Lx (Ng g) y1) 5 AA3 cc3 ((p.kids ++ t).map GNode.toD) from by
                   rw [← List.map_append] at G3
                   obtain ⟨A4, c4, e4, h4⟩ := G3.sl (X := Ng g) (fun b hb => HNG.out w2 (Below.refl _ _) b hb)
                   obtain ⟨rfl, rfl⟩ : AA3 = A4 ∧ cc3 = c4 := by simpa using e4
                   exact h4)
                 have ky1 := fun i => (HPP.out _ By1.out).cell i
                 clear G3 hGr3)
              | (go_at_call 172
                 with_reducible refine (specInto (Ng g) 1048576 p A3 c3 rows A c y1 (HNG.out _ By1.out) hrl HNR.out hpM (HROWS.out _ By1.out)).mono ?_
                 rintro e y2 ⟨AA4, cc4, rfl, hs4x, hb4x⟩
                 have By2 := Lib.hid (By1.out.trans (hb4x.mono By1.out.size))
                 have OP4 := Lib.hid hs4x
                 have CO4 := Lib.hid (CO3.out.lx hb4x)
                 have ky2 := fun i => (HPP.out _ By2.out).cell i
                 clear hs4x hb4x)
              | (go_at_call 94
                 with_reducible refine (HUS.out y2 AA4 cc4 AA3 cc3 By2.out OP4.out CO4.out).mono ?_
                 rintro e w9 ⟨rfl, hR9, hT9⟩
                 have R9 := Lib.hid hR9
                 have kz := fun i => ((HPP.out _ By2.out).turned hT9 (by omega)).cell i
                 have T9 := Lib.hid ((HTN.out _ By2.out).trans hT9)
                 clear hR9 hT9))
            all_goals
              go_wp2_with fail
              go_ret
              rw [HV.out]
              exact ⟨rfl, R9.out, T9.out⟩
        · have h20 : (p.op == 20) = false := by
            cases h : (p.op == 20)
            · rfl
            · rw [isAny_con h] at hp; cases hp
          have h19 : (p.op == 19) = false := by
            cases h : (p.op == 19)
            · rfl
            · rw [isAny_num h] at hp; cases hp
          have HWH := Lib.hid (specAll (Ng g) g ((s + 1 : Nat) : Int) ds A0 c0 rows A c w2 (HNG.out _ (Below.refl _ _)) R3.out (HDS.out _ (Below.refl _ _)) (fun r hr => (HNR.out r hr).1) HM.out (HROWS.out _ (Below.refl _ _)))
          cases ha : allR ds rows with
          | none =>
            have HV := Lib.hid (useF_none (ds := ds) (f := f) (rows := rows) (t := t) ho hp ha)
            rw [ha] at HWH
            clear hp ha hcp
            go_enter Try.func94, Try.ntmps94
            go_wp2_with fail
            clear q0 q1 q2 q3 q4 hcg hfg hcps
            rw [← EQ1.out, ← EQ2.out]
            refine HWH.out.mono ?_
            rintro e w4 ⟨hb4, A4, n4, c4, rfl⟩
            have BO := Lib.hid (show Below w2.heap.size w2 w4.drew from hb4.drew)
            clear hb4
            go_wp2_with fail
            go_region_held3 (fun w' => True) (exact trivial) (first
              | (go_at_call 174
                 refine (specRest (Ng g) rows A c _ ?_ hrl (fun r hr => ⟨(HNR.out r hr).1, by have := (HNR.out r hr).2; omega⟩) ?_).mono ?_
                 · exact HNG.out _ BO.out
                 · exact HROWS.out _ BO.out
                 rintro e w5 ⟨A5, c5, rfl, hs5, hb5⟩
                 have OP := Lib.hid hs5
                 have BO := Lib.hid (BO.out.trans (hb5.mono BO.out.size))
                 clear hs5 hb5)
              | (go_at_call 94
                 refine (IH.out (s + 1) (restR rows) t A5 c5 (tailA b1 off1 5 c2) (c2 - 1) _ (by omega) hs1 (Nat.le_trans restR_len hrl) (by omega) HRBR.out HNT.out (HRG.out _ BO.out) (HDS.out _ BO.out) OP.out (HTT.out _ BO.out)).mono ?_
                 rintro e w9 ⟨rfl, hR9, hT9⟩
                 have R9 := Lib.hid hR9
                 have T9 := Lib.hid ((HTN.out _ BO.out).trans hT9)
                 clear hR9 hT9))
            all_goals
              go_wp2_with fail
              go_ret
              rw [HV.out]
              exact ⟨rfl, R9.out, T9.out⟩
          | some all =>
            have HV := Lib.hid (useF_all (ds := ds) (f := f) (rows := rows) (t := t) ho hp ha)
            have hak := allR_kids HM.out ha
            have hal := hak.1
            have HAK := Lib.hid hak.2
            rw [ha] at HWH
            have halm : all.length ≤ 9223372036854775807 := by omega
            clear hp ha hak hcp
            go_enter Try.func94, Try.ntmps94
            go_wp2_with fail
            clear q0 q1 q2 q3 q4 hcg hfg hcps
            rw [← EQ1.out, ← EQ2.out]
            refine HWH.out.mono ?_
            rintro e w4 ⟨hb4, A4, c4, rfl, hs4⟩
            have B4 := Lib.hid hb4
            have S4 := Lib.hid hs4
            clear hb4 hs4
            go_wp2_with fail
            go_loopw [11] (fun i wr => ∃ (j s' : Nat), j ≤ all.length ∧ i = .int .i64 j ∧ s' ≤ 4000 ∧ s + 1 ≤ s' ∧ Hid (useAll (useF ds f) rows t all (s + 1) = useAll (useF ds f) rows t (all.drop j) s') ∧ Hid (Row wr g 130 #[.slice A0 ds.length c0, .int .i64 (s' : Int)]) ∧ Hid (Turned g w4 wr)) (fun i _ => all.length - (intOf i).toNat)
            case atStart => exact ⟨0, s + 1, by omega, by go_num, hs1, Nat.le_refl _, Lib.hid rfl, Lib.hid (HRG.out _ B4.out), Lib.hid (Turned.refl _ _)⟩
            case round =>
              obtain ⟨j, s', hj, rfl, hs4, hss, HU, HRq, HTq⟩ := hrel
              have hgq := HRq.out.lt
              by_cases hlt : j < all.length
              · obtain ⟨b6, off6, A6, c6, rfl, hSb6, q0, q1, q2, q3, q4, hat⟩ := GNode.elem (S4.out.turned HTq.out) j hlt
                clear hat
                have hka := HAK.out _ (List.getElem_mem hlt)
                have HROWS5 := Lib.hid (fun (wx : World) (hb : Below wr.heap.size wr wx) => ((HROWS.out _ B4.out).turned HTq.out).lx hb)
                have HDS5 := Lib.hid (fun (wx : World) (hb : Below wr.heap.size wr wx) => ((HDS.out _ B4.out).turned HTq.out).lx hb)
                have HTT5 := Lib.hid (fun (wx : World) (hb : Below wr.heap.size wr wx) => ((HTT.out _ B4.out).turned HTq.out).lx hb)
                have HRG5 := Lib.hid (fun (wx : World) (hb : Below wr.heap.size wr wx) => HRq.out.below hb hgq)
                have HNG5 := Lib.hid (fun (wx : World) (hb : Below wr.heap.size wr wx) (b : Nat) (h : wx.heap.size ≤ b) => show Ng g b from fun e => by have := hb.size; omega)
                have HTN5 := Lib.hid (fun (wx : World) (hb : Below wr.heap.size wr wx) => HTq.out.ofBelow hb)
                have HEL := Lib.hid (fun (wx : World) (hb : Below wr.heap.size wr wx) => show wx.cell? ⟨b6, off6 + j * 5, none⟩ = some (.int .i64 (all[j]).op) ∧ wx.cell? ⟨b6, off6 + j * 5 + 1, none⟩ = some (.int .i64 (all[j]).n) ∧ wx.cell? ⟨b6, off6 + j * 5 + 2, none⟩ = some (.string (all[j]).s) ∧ wx.cell? ⟨b6, off6 + j * 5 + 3, none⟩ = some (.string (all[j]).t) ∧ wx.cell? ⟨b6, off6 + j * 5 + 4, none⟩ = some (.slice A6 (all[j]).kids.length c6) from
                  ⟨(hb.cell (p := ⟨b6, off6 + j * 5, none⟩) hSb6.1).trans q0, (hb.cell (p := ⟨b6, off6 + j * 5 + 1, none⟩) hSb6.1).trans q1, (hb.cell (p := ⟨b6, off6 + j * 5 + 2, none⟩) hSb6.1).trans q2, (hb.cell (p := ⟨b6, off6 + j * 5 + 3, none⟩) hSb6.1).trans q3, (hb.cell (p := ⟨b6, off6 + j * 5 + 4, none⟩) hSb6.1).trans q4⟩)
                have HEL2 := Lib.hid (fun (wx wy : World) (hb : Below wr.heap.size wr wx) (ht : Turned g wx wy) => show wy.cell? ⟨b6, off6 + j * 5, none⟩ = some (.int .i64 (all[j]).op) ∧ wy.cell? ⟨b6, off6 + j * 5 + 1, none⟩ = some (.int .i64 (all[j]).n) ∧ wy.cell? ⟨b6, off6 + j * 5 + 2, none⟩ = some (.string (all[j]).s) ∧ wy.cell? ⟨b6, off6 + j * 5 + 3, none⟩ = some (.string (all[j]).t) ∧ wy.cell? ⟨b6, off6 + j * 5 + 4, none⟩ = some (.slice A6 (all[j]).kids.length c6) from by
                  have hk := ht.block b6 (Nat.lt_of_lt_of_le hSb6.1 hb.size) hSb6.2
                  obtain ⟨h0, h1, h2, h3, h4⟩ := HEL.out wx hb
                  exact ⟨(World.cell?_of_block hk).trans h0, (World.cell?_of_block hk).trans h1, (World.cell?_of_block hk).trans h2, (World.cell?_of_block hk).trans h3, (World.cell?_of_block hk).trans h4⟩)
                have HUH := Lib.hid (fun (h : (useF ds f s' (intoR all[j] rows) (List.replicate (all[j]).kids.length anyN ++ t)).1 = true) => show useAll (useF ds f) rows t all (s + 1) = useF ds f s' (intoR all[j] rows) (List.replicate (all[j]).kids.length anyN ++ t) by rw [HU.out, List.drop_eq_getElem_cons hlt, useAll_hit h])
                have HUM := Lib.hid (fun (h : (useF ds f s' (intoR all[j] rows) (List.replicate (all[j]).kids.length anyN ++ t)).1 = false) => show useAll (useF ds f) rows t all (s + 1) = useAll (useF ds f) rows t (all.drop (j + 1)) (useF ds f s' (intoR all[j] rows) (List.replicate (all[j]).kids.length anyN ++ t)).2 by rw [HU.out, List.drop_eq_getElem_cons hlt, useAll_miss h])
                have HOK := Lib.hid (useF_ok ds f s' (intoR all[j] rows) (List.replicate (all[j]).kids.length anyN ++ t) (by omega))
                have Bo0 := Lib.hid (show Below wr.heap.size wr wr.drew from (Below.refl _ _).drew)
                have hcp := HEL.out _ (Below.refl _ _)
                have HOP := Lib.hid (fun (wx : World) (hb : Below wr.heap.size wr wx) => specInto (Ng g) 1048576 all[j] A6 c6 rows A c wx (HNG5.out wx hb) hrl HNR.out hka (HROWS5.out wx hb))
                have HAN := Lib.hid (fun (wx : World) (hb : Below wr.heap.size wr wx) => specAny (Ng g) (all[j]).kids.length t (tailA b1 off1 5 c2) (c2 - 1) wx (HNG5.out wx hb) (by omega) (HTT5.out wx hb))
                have HUS := Lib.hid (fun (wx : World) (A5 : Option Addr) (c5 : Nat) (A7 : Option Addr) (c7 : Nat) (hb : Below wr.heap.size wr wx) (h1 : Sl wx (Lx (Ng g) wx) 1 A5 c5 ((intoR all[j] rows).map rowD)) (h2 : Sl wx (Lx (Ng g) wx) 5 A7 c7 ((List.replicate (all[j]).kids.length anyN ++ t).map GNode.toD)) =>
                  show Calls Try.prog 94 #[.pointer (some ⟨g, 0, none⟩), .slice A5 (intoR all[j] rows).length c5, .slice A7 ((all[j]).kids.length + t.length) c7] wx (UseTo 130 g (.slice A0 ds.length c0) (useF ds f s' (intoR all[j] rows) (List.replicate (all[j]).kids.length anyN ++ t)) wx) from by
                    have h := IH.out s' (intoR all[j] rows) (List.replicate (all[j]).kids.length anyN ++ t) A5 c5 A7 c7 wx (by omega) hs4 (Nat.le_trans intoR_len hrl) (by simp; omega) (by rw [List.length_append, List.length_replicate]; exact HRBI.out all[j]) (fun x hx => by
                      rcases List.mem_append.1 hx with h | h
                      · rw [(List.mem_replicate.1 h).2]; exact anyN_B _
                      · exact HNT.out x h) (HRG5.out _ hb) (HDS5.out _ hb) h1 h2
                    rw [List.length_append, List.length_replicate] at h
                    exact h)
                clear q0 q1 q2 q3 q4
                go_wp2_with fail
                go_region_held3 (fun w' => w'.cell? ⟨b6, off6 + j * 5, none⟩ = some (.int .i64 (all[j]).op) ∧ w'.cell? ⟨b6, off6 + j * 5 + 1, none⟩ = some (.int .i64 (all[j]).n) ∧ w'.cell? ⟨b6, off6 + j * 5 + 2, none⟩ = some (.string (all[j]).s) ∧ w'.cell? ⟨b6, off6 + j * 5 + 3, none⟩ = some (.string (all[j]).t) ∧ w'.cell? ⟨b6, off6 + j * 5 + 4, none⟩ = some (.slice A6 (all[j]).kids.length c6)) (first | exact hcp | exact kz | exact kc1 | exact kc2 | exact kc4 | exact kc5) (first
                  | (go_at_call 172
                     with_reducible refine (HOP.out wr.drew Bo0.out).mono ?_
                     rintro e xo1 ⟨AA1, cc1, rfl, hs1, hb1⟩
                     have Bo1 := Lib.hid (Bo0.out.trans (hb1.mono Bo0.out.size))
                     have OP_1 := Lib.hid hs1
                     have kc1 := HEL.out _ Bo1.out
                     clear hs1 hb1)
                  | (go_at_call 175
                     with_reducible refine (HAN.out xo1 Bo1.out).mono ?_
                     rintro e xo2 ⟨AA2, cc2, rfl, hs2, hb2⟩
                     have Bo2 := Lib.hid (Bo1.out.trans (hb2.mono Bo1.out.size))
                     have OP_2 := Lib.hid (OP_1.out.lx hb2)
                     have CO_2 := Lib.hid hs2
                     have kc2 := HEL.out _ Bo2.out
                     clear hs2 hb2)
                  | (go_at_call 94
                     with_reducible refine (HUS.out xo2 AA1 cc1 AA2 cc2 Bo2.out OP_2.out CO_2.out).mono ?_
                     rintro e w9 ⟨rfl, hR9, hT9⟩
                     have R9 := Lib.hid hR9
                     have kz := HEL2.out _ _ Bo2.out hT9
                     have T9 := Lib.hid ((HTN5.out _ Bo2.out).trans hT9)
                     clear hR9 hT9)
                  | (go_at_call 175
                     with_reducible refine (HAN.out wr.drew Bo0.out).mono ?_
                     rintro e xo4 ⟨AA4, cc4, rfl, hs4, hb4⟩
                     have Bo4 := Lib.hid (Bo0.out.trans (hb4.mono Bo0.out.size))
                     have CO_4 := Lib.hid hs4
                     have kc4 := HEL.out _ Bo4.out
                     clear hs4 hb4)
                  | (go_at_call 172
                     with_reducible refine (HOP.out xo4 Bo4.out).mono ?_
                     rintro e xo5 ⟨AA5, cc5, rfl, hs5, hb5⟩
                     have Bo5 := Lib.hid (Bo4.out.trans (hb5.mono Bo4.out.size))
                     have CO_5 := Lib.hid (CO_4.out.lx hb5)
                     have OP_5 := Lib.hid hs5
                     have kc5 := HEL.out _ Bo5.out
                     clear hs5 hb5)
                  | (go_at_call 94
                     with_reducible refine (HUS.out xo5 AA5 cc5 AA4 cc4 Bo5.out OP_5.out CO_5.out).mono ?_
                     rintro e w9 ⟨rfl, hR9, hT9⟩
                     have R9 := Lib.hid hR9
                     have kz := HEL2.out _ _ Bo5.out hT9
                     have T9 := Lib.hid ((HTN5.out _ Bo5.out).trans hT9)
                     clear hR9 hT9))
                all_goals
                  cases hr : (useF ds f s' (intoR all[j] rows) (List.replicate (all[j]).kids.length anyN ++ t)).1
                  · have HW := Lib.hid (HUM.out hr)
                    have hok := HOK.out.2 hr
                    have hok1 := HOK.out.1
                    clear hr
                    go_wp2_with fail
                    go_roundw
                    case rel => exact ⟨j + 1, _, by omega, by go_num, hok, by omega, HW, R9, T9⟩
                    case measure => simp [intOf]; omega
                  · have HW := Lib.hid (HUH.out hr)
                    have Hr := Lib.hid hr
                    clear hr
                    go_wp2_with fail
                    go_ret
                    rw [HV.out, HW.out]
                    exact ⟨ret_bool Hr.out.symm, R9.out, (HTN.out _ B4.out).trans T9.out⟩
              · have HE := Lib.hid (show useAll (useF ds f) rows t all (s + 1) = (false, s') by rw [HU.out, show j = all.length by omega, List.drop_length]; rfl)
                go_wp2_with fail
                go_ret
                rw [HV.out, HE.out]
                exact ⟨rfl, HRq.out, (HTN.out _ B4.out).trans HTq.out⟩
end Go.Proofs.Ytgbcdfeflgnogaa
