/- Expressions that are tidy: alternatives, and the loops of the reference. Conditions: none. -/
import Derived.Test.YtgbcdfeflgnogaaNodeP
import Derived.Test.YtgbcdfeflgnogaaTail
namespace Go.Proofs.Ytgbcdfeflgnogaa
open Go.RowKit
set_option linter.unusedVariables false
set_option linter.unusedSimpArgs false
set_option maxHeartbeats 1000000

theorem two_of {l : List GNode} (h : l.length = 2) : ∃ p x, l = [p, x] := by
  match l, h with
  | [p, x], _ => exact ⟨p, x, rfl⟩
theorem alt_false {a : GNode} (h : alt1 a.op a.n a.s a.t a.kids.length = false) : a.alt = false := by rw [a.alt_eq, h]; rfl
theorem alt_two {a p x : GNode} (h : alt1 a.op a.n a.s a.t a.kids.length = true) (hk : a.kids = [p, x]) : a.alt = (p.pat && x.exp) := by rw [a.alt_eq, h, hk, GNode.altK_two]; rfl

set_option maxRecDepth 20000 in
theorem implAlt (a : GNode) (A1 : Option Addr) (c1 : Nat) (w : World) (HE : ∀ x ∈ a.kids, ∀ (A2 : Option Addr) (c2 : Nat) (w2 : World), GNode.At w2 (Lt w2.heap.size) A2 c2 x → Calls Try.prog 105 #[.agg #[.int .i64 x.op, .int .i64 x.n, .string x.s, .string x.t, .slice A2 x.kids.length c2]] w2 fun e w' => e = .returned (.bool x.exp) ∧ Below w2.heap.size w2 w')
    (hat : GNode.At w (Lt w.heap.size) A1 c1 a) :
    Calls Try.prog 197 #[.agg #[.int .i64 a.op, .int .i64 a.n, .string a.s, .string a.t, .slice A1 a.kids.length c1]] w fun e w' => e = .returned (.bool a.alt) ∧ Below w.heap.size w w' := by
  have HEH := Lib.hid HE
  have hlen : a.kids.length ≤ 9223372036854775807 := by simpa using hat.2.2.2.2.len
  obtain ⟨w0, e0⟩ : ∃ w0, w0 = w.alloc (.cells #[.int .i64 a.op, .int .i64 a.n, .string a.s, .string a.t, .slice A1 a.kids.length c1] 49) := ⟨_, rfl⟩
  have E := Lib.hid (show Below w.heap.size w w0 by rw [e0]; exact (Below.refl _ _).alloc (Nat.le_refl _) _)
  have R := Lib.hid (show Row w0 w.heap.size 49 #[.int .i64 a.op, .int .i64 a.n, .string a.s, .string a.t, .slice A1 a.kids.length c1] by rw [e0]; exact Row.new' _ _ _ rfl)
  have HS := Lib.hid (hat.2.2.2.2.keep (keep_below E.out E.out.size))
  have EQ := Lib.hid e0
  clear HE hat e0
  by_cases o8 : a.op = 8
  · skip
    cases a0 : (a.n == 0)
    · skip
      have hv := Lib.hid (alt_false (a := a) (by unfold alt1; simp [o8, a0]))
      have p8 : (a.op == 8) = true := by rw [o8]; rfl
      have r8 : (a.op != 8) = false := by rw [o8]; rfl
      clear o8
      go_enter Try.func197, Try.ntmps197
      go_wp2_with fail
      go_ret
      exact ⟨ret_bool hv.out.symm, (Below.refl _ _).alloc (Nat.le_refl _) _⟩
    · skip
      cases b : (a.s.toList.isEmpty)
      · skip
        have hv := Lib.hid (alt_false (a := a) (by unfold alt1; simp [o8, a0, b]))
        have p8 : (a.op == 8) = true := by rw [o8]; rfl
        have r8 : (a.op != 8) = false := by rw [o8]; rfl
        clear o8
        go_enter Try.func197, Try.ntmps197
        go_wp2_with fail
        go_ret
        exact ⟨ret_bool hv.out.symm, (Below.refl _ _).alloc (Nat.le_refl _) _⟩
      · skip
        cases te : (a.t.toList.isEmpty)
        · skip
          have hv := Lib.hid (alt_false (a := a) (by unfold alt1; simp [o8, a0, b, te]))
          have p8 : (a.op == 8) = true := by rw [o8]; rfl
          have r8 : (a.op != 8) = false := by rw [o8]; rfl
          clear o8
          go_enter Try.func197, Try.ntmps197
          go_wp2_with fail
          go_ret
          exact ⟨ret_bool hv.out.symm, (Below.refl _ _).alloc (Nat.le_refl _) _⟩
        · skip
          by_cases hk : a.kids.length = 2
          · skip
            obtain ⟨p, x, hpx⟩ := two_of hk
            have hv := Lib.hid (alt_two (a := a) (by unfold alt1; simp [o8, a0, b, te, hk]) hpx)
            have HXE := Lib.hid (HEH.out x (by rw [hpx]; simp))
            have hs := HS.out
            rw [hpx] at hs
            obtain ⟨b1, off1, A2, c2, eA, hS1, p0, p1, p2, p3, p4, hatp⟩ := GNode.elem hs 0 (by simp)
            obtain ⟨b2, off2, A3, c3, eA2, hS2, x0, x1, x2, x3, x4, hatx⟩ := GNode.elem hs 1 (by simp)
            obtain ⟨rfl, rfl⟩ : b1 = b2 ∧ off1 = off2 := by rw [eA] at eA2; simpa using eA2
            simp only [Nat.zero_mul, Nat.one_mul, Nat.add_zero, List.getElem_cons_zero, List.getElem_cons_succ] at p0 p1 p2 p3 p4 hatp x0 x1 x2 x3 x4 hatx
            have hn0 : 0 < a.kids.length := by omega
            have hn1 : 1 < a.kids.length := by omega
            have HPP := Lib.hid (implPatTidy (p.bulk + 1) p A2 c2 w0 (by omega) hatp)
            have HAX := Lib.hid hatx
            subst eA
            clear hpx hs hatp hatx eA2
            have p8 : (a.op == 8) = true := by rw [o8]; rfl
            have r8 : (a.op != 8) = false := by rw [o8]; rfl
            clear o8
            have hk1 : (a.kids.length == 2) = true := by simp [hk]
            have hk2 : ((a.kids.length : Int) == 2) = true := by rw [beq_iff_eq]; omega
            have Hhk := Lib.hid hk
            clear hk
            rw [EQ.out] at p0 p1 p2 p3 p4
            cases hp : p.pat
            · have hv2 := Lib.hid (show a.alt = false by rw [hv.out, hp]; rfl)
              rw [hp] at HPP
              clear hp
              go_enter Try.func197, Try.ntmps197
              go_wp2_with fail
              rw [← EQ.out]
              refine HPP.out.mono ?_
              rintro e w1 ⟨rfl, hb1⟩
              have R1 := Lib.hid (R.out.below hb1 R.out.lt)
              have hc1 := fun i => R1.out.cell i
              have B1 := Lib.hid (E.out.trans (hb1.mono E.out.size))
              clear hb1 x0 x1 x2 x3 x4 p0 p1 p2 p3 p4
              go_wp2_with fail
              go_ret
              exact ⟨ret_bool hv2.out.symm, B1.out⟩
            · have hv2 := Lib.hid (show a.alt = x.exp by rw [hv.out, hp]; rfl)
              rw [hp] at HPP
              clear hp
              go_enter Try.func197, Try.ntmps197
              go_wp2_with fail
              rw [← EQ.out]
              refine HPP.out.mono ?_
              rintro e w1 ⟨rfl, hb1⟩
              have R1 := Lib.hid (R.out.below hb1 R.out.lt)
              have hc1 := fun i => R1.out.cell i
              have B1 := Lib.hid (E.out.trans (hb1.mono E.out.size))
              have y0 := (hb1.cell (p := ⟨b1, off1 + 5, none⟩) hS1).trans x0
              have y1 := (hb1.cell (p := ⟨b1, off1 + 5 + 1, none⟩) hS1).trans x1
              have y2 := (hb1.cell (p := ⟨b1, off1 + 5 + 2, none⟩) hS1).trans x2
              have y3 := (hb1.cell (p := ⟨b1, off1 + 5 + 3, none⟩) hS1).trans x3
              have y4 := (hb1.cell (p := ⟨b1, off1 + 5 + 4, none⟩) hS1).trans x4
              have HX := Lib.hid (HXE.out A3 c3 w1 (HAX.out.keep (keep_below hb1 hb1.size)))
              clear hb1 x0 x1 x2 x3 x4 p0 p1 p2 p3 p4
              go_wp2_with fail
              refine HX.out.mono ?_
              rintro e w2 ⟨rfl, hb2⟩
              have B2 := Lib.hid (B1.out.trans (hb2.mono B1.out.size))
              clear hb2
              go_wp2_with fail
              go_ret
              exact ⟨ret_bool hv2.out.symm, B2.out⟩
          · skip
            have hv := Lib.hid (alt_false (a := a) (by unfold alt1; simp [o8, a0, b, te, hk]))
            have p8 : (a.op == 8) = true := by rw [o8]; rfl
            have r8 : (a.op != 8) = false := by rw [o8]; rfl
            clear o8
            have hk1 : (a.kids.length == 2) = false := by simp [hk]
            have hk2 : ((a.kids.length : Int) == 2) = false := by rw [beq_eq_false_iff_ne]; omega
            have Hhk := Lib.hid hk
            clear hk
            go_enter Try.func197, Try.ntmps197
            go_wp2_with fail
            go_ret
            exact ⟨ret_bool hv.out.symm, (Below.refl _ _).alloc (Nat.le_refl _) _⟩
  · skip
    have hv := Lib.hid (alt_false (a := a) (by unfold alt1; simp [o8]))
    have p8 : (a.op == 8) = false := by simpa using o8
    have r8 : (a.op != 8) = true := by simp [bne, p8]
    clear o8
    go_enter Try.func197, Try.ntmps197
    go_wp2_with fail
    go_ret
    exact ⟨ret_bool hv.out.symm, (Below.refl _ _).alloc (Nat.le_refl _) _⟩

set_option maxRecDepth 20000 in
theorem specEs (a : GNode) (A1 : Option Addr) (c1 : Nat) (w : World) (HE : ∀ x ∈ a.kids, ∀ (A2 : Option Addr) (c2 : Nat) (w2 : World), GNode.At w2 (Lt w2.heap.size) A2 c2 x → Calls Try.prog 103 #[.agg #[.int .i64 x.op, .int .i64 x.n, .string x.s, .string x.t, .slice A2 x.kids.length c2]] w2 fun e w' => e = .returned (.bool x.exp) ∧ Below w2.heap.size w2 w')
    (hat : GNode.At w (Lt w.heap.size) A1 c1 a) :
    Calls Try.prog 187 #[.agg #[.int .i64 a.op, .int .i64 a.n, .string a.s, .string a.t, .slice A1 a.kids.length c1], .int .i64 0] w fun e w' => e = .returned (.bool (GNode.expL a.kids)) ∧ Below w.heap.size w w' := by
  have HEH := Lib.hid HE
  have hlen : a.kids.length ≤ 9223372036854775807 := by simpa using hat.2.2.2.2.len
  have HS := Lib.hid hat.2.2.2.2
  clear HE hat
  go_enter Try.func187, Try.ntmps187
  go_wp2_with fail
  go_loopw [5] (fun i wr => ∃ j : Nat, j ≤ a.kids.length ∧ i = .int .i64 j ∧ Hid ((a.kids.take j).all GNode.exp = true) ∧ Hid (Below w.heap.size w wr) ∧ Hid (Row wr w.heap.size 49 #[.int .i64 a.op, .int .i64 a.n, .string a.s, .string a.t, .slice A1 a.kids.length c1])) (fun i _ => a.kids.length - (intOf i).toNat)
  case atStart => exact ⟨0, by omega, by go_num, Lib.hid (by simp), Lib.hid ((Below.refl _ _).alloc (Nat.le_refl _) _), Lib.hid (Row.new _ _ _)⟩
  case round =>
    obtain ⟨j, hj, rfl, Hall, hbl, R⟩ := hrel
    have hsz := hbl.out.size
    have hc := fun i => R.out.cell i
    by_cases hlt : j < a.kids.length
    · obtain ⟨b, off, A2, c2, rfl, hSb, g0, g1, g2, g3, g4, hat⟩ := GNode.elem (HS.out.below hbl.out (Nat.le_refl _)) j hlt
      have hmem : a.kids[j] ∈ a.kids := List.getElem_mem hlt
      have HX := Lib.hid (HEH.out _ hmem A2 c2 wr (hat.keep fun x hx => ⟨Nat.lt_of_lt_of_le hx hsz, rfl⟩))
      go_wp2_with fail
      refine HX.out.mono ?_
      rintro e w1 ⟨rfl, hb1⟩
      cases he : (a.kids[j]).exp
      · have hn := Lib.hid (show a.kids.all GNode.exp = false from by rw [← Bool.not_eq_true]; intro h; have := List.all_eq_true.1 h _ hmem; rw [he] at this; cases this)
        clear he
        go_wp2_with fail
        go_ret
        exact ⟨ret_bool (by rw [GNode.expL_all, hn.out]), hbl.out.trans (hb1.mono hsz)⟩
      · have he2 := Lib.hid he
        clear he
        go_wp2_with fail
        go_roundw
        case rel => exact ⟨j + 1, by omega, by go_num, Lib.hid (by rw [take_snoc' _ j hlt, List.all_append, Hall.out]; simp [he2.out]), Lib.hid (hbl.out.trans (hb1.mono hsz)), Lib.hid (R.out.below hb1 R.out.lt)⟩
        case measure => simp [intOf]; omega
    · have hko := Lib.hid (show GNode.expL a.kids = true from by rw [GNode.expL_all]; have := Hall.out; rwa [show j = a.kids.length by omega, List.take_length] at this)
      go_wp2_with fail
      go_ret
      exact ⟨ret_bool hko.out.symm, hbl.out⟩
end Go.Proofs.Ytgbcdfeflgnogaa
