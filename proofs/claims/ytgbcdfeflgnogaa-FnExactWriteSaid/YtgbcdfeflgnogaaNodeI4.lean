/- Expressions that are tidy, in the program (4). Conditions: none. -/
import Derived.Test.YtgbcdfeflgnogaaNodeC
import Derived.Deep.RegionLaw
import Derived.Deep.DeepMust
import Derived.Deep.RegionHeld3
namespace Go.Proofs.Ytgbcdfeflgnogaa
open Go.RowKit
set_option linter.unusedVariables false
set_option linter.unusedSimpArgs false
set_option maxHeartbeats 40000000

set_option maxRecDepth 20000 in
theorem implExp_11 (t : GNode) (A1 : Option Addr) (c1 : Nat) (w : World) (o11 : t.op = 11)
    (HKK : ∀ x ∈ t.kids, ∀ (A2 : Option Addr) (c2 : Nat) (w2 : World), GNode.At w2 (Lt w2.heap.size) A2 c2 x → Calls Try.prog 105 #[.agg #[.int .i64 x.op, .int .i64 x.n, .string x.s, .string x.t, .slice A2 x.kids.length c2]] w2 fun e w' => e = .returned (.bool x.exp) ∧ Below w2.heap.size w2 w')
    (HK2 : ∀ y ∈ t.kids, ∀ (A2 : Option Addr) (c2 : Nat) (w2 : World), GNode.At w2 (Lt w2.heap.size) A2 c2 y → Calls Try.prog 197 #[.agg #[.int .i64 y.op, .int .i64 y.n, .string y.s, .string y.t, .slice A2 y.kids.length c2]] w2 fun e w' => e = .returned (.bool y.alt) ∧ Below w2.heap.size w2 w')
    (ht : GNode.At w (Lt w.heap.size) A1 c1 t) :
    Calls Try.prog 105 #[.agg #[.int .i64 t.op, .int .i64 t.n, .string t.s, .string t.t, .slice A1 t.kids.length c1]] w fun e w' => e = .returned (.bool t.exp) ∧ Below w.heap.size w w' := by
    obtain ⟨h0, h1, h2, h3, hs⟩ := id ht
    have hsz2 : t.s.size ≤ 9223372036854775807 := by unfold maxLen at h2; omega
    have hsz3 : t.t.size ≤ 9223372036854775807 := by unfold maxLen at h3; omega
    have hlen : t.kids.length ≤ 9223372036854775807 := by simpa using hs.len
    have hte := Lib.hid t.exp_eq
    obtain ⟨w0, e0⟩ : ∃ w0, w0 = w.alloc (.cells #[.int .i64 t.op, .int .i64 t.n, .string t.s, .string t.t, .slice A1 t.kids.length c1] 49) := ⟨_, rfl⟩
    have E := Lib.hid (show Below w.heap.size w w0 by rw [e0]; exact (Below.refl _ _).alloc (Nat.le_refl _) _)
    have R := Lib.hid (show Row w0 w.heap.size 49 #[.int .i64 t.op, .int .i64 t.n, .string t.s, .string t.t, .slice A1 t.kids.length c1] by rw [e0]; exact Row.new' _ _ _ rfl)
    have EQ := Lib.hid e0
    have HAN := Lib.hid (fun (wx : World) (hb : Below w0.heap.size w0 wx) => implAllNodes 105 (enters Try.func105 (by kernel_rfl) (by kernel_rfl)) #[] GNode.exp t.kids A1 c1 wx (hs.below (E.out.trans (hb.mono E.out.size)) (Nat.le_trans E.out.size hb.size)) (fun x hx A2 c2 w2 _ hx2 => HKK x hx A2 c2 w2 hx2))
    have HKH := Lib.hid HKK
    have HAL := Lib.hid HK2
    have HSS := Lib.hid hs
    have hc0 := fun i => R.out.cell i
    clear HKK HK2 e0 h0 h1 h2 h3 hs ht
    cases a : (t.n == 0)
    · skip
      have iv : inB 11 10 14 = true := by decide
      have hv := Lib.hid (show exp1 t.op t.n t.s t.t t.kids.length = false from by unfold exp1; simp [o11, a, iv])
      have hx := Lib.hid (show t.exp = false by rw [hte.out, hv.out]; rfl)
      clear iv
      have p1 : (t.op == 1) = false := by rw [o11]; rfl
      have r1 : (t.op != 1) = true := by rw [o11]; rfl
      have p2 : (t.op == 2) = false := by rw [o11]; rfl
      have r2 : (t.op != 2) = true := by rw [o11]; rfl
      have p3 : (t.op == 3) = false := by rw [o11]; rfl
      have r3 : (t.op != 3) = true := by rw [o11]; rfl
      have p16 : (t.op == 16) = false := by rw [o11]; rfl
      have r16 : (t.op != 16) = true := by rw [o11]; rfl
      have p5 : (t.op == 5) = false := by rw [o11]; rfl
      have r5 : (t.op != 5) = true := by rw [o11]; rfl
      have p6 : (t.op == 6) = false := by rw [o11]; rfl
      have r6 : (t.op != 6) = true := by rw [o11]; rfl
      have p4 : (t.op == 4) = false := by rw [o11]; rfl
      have r4 : (t.op != 4) = true := by rw [o11]; rfl
      have p10 : (t.op == 10) = false := by rw [o11]; rfl
      have r10 : (t.op != 10) = true := by rw [o11]; rfl
      have p11 : (t.op == 11) = true := by rw [o11]; rfl
      have r11 : (t.op != 11) = false := by rw [o11]; rfl
      have p12 : (t.op == 12) = false := by rw [o11]; rfl
      have r12 : (t.op != 12) = true := by rw [o11]; rfl
      have p13 : (t.op == 13) = false := by rw [o11]; rfl
      have r13 : (t.op != 13) = true := by rw [o11]; rfl
      have p14 : (t.op == 14) = false := by rw [o11]; rfl
      have r14 : (t.op != 14) = true := by rw [o11]; rfl
      have p9 : (t.op == 9) = false := by rw [o11]; rfl
      have r9 : (t.op != 9) = true := by rw [o11]; rfl
      have p15 : (t.op == 15) = false := by rw [o11]; rfl
      have r15 : (t.op != 15) = true := by rw [o11]; rfl
      have p7 : (t.op == 7) = false := by rw [o11]; rfl
      have r7 : (t.op != 7) = true := by rw [o11]; rfl
      clear o11
      go_enter Try.func105, Try.ntmps105
      go_wp2_with fail
      go_quiet (fail)
      go_wp2_with fail
      go_ret
      first | exact ⟨ret_bool (hx.out.symm), E.out.trans (B7.out.mono E.out.size)⟩ | exact ⟨ret_bool (hx.out.symm), E.out.trans (B8.out.mono E.out.size)⟩ | exact ⟨ret_bool (hx.out.symm), E.out.trans (B9.out.mono E.out.size)⟩ | exact ⟨ret_bool (hx.out.symm), E.out⟩ | exact ⟨ret_bool (hx.out.symm), belowN E.out _⟩ | exact ⟨ret_bool (hx.out.symm), (belowN E.out _).drew⟩ | exact ⟨ret_bool (hx.out.symm), (Below.refl _ _).alloc (Nat.le_refl _) _⟩ | exact ⟨ret_bool (hx.out.symm), belowN ((Below.refl _ _).alloc (Nat.le_refl _) _) _⟩
    · skip
      cases b : (t.s.toList.isEmpty)
      · skip
        have iv : inB 11 10 14 = true := by decide
        have hv := Lib.hid (show exp1 t.op t.n t.s t.t t.kids.length = false from by unfold exp1; simp [o11, a, b, iv])
        have hx := Lib.hid (show t.exp = false by rw [hte.out, hv.out]; rfl)
        clear iv
        have p1 : (t.op == 1) = false := by rw [o11]; rfl
        have r1 : (t.op != 1) = true := by rw [o11]; rfl
        have p2 : (t.op == 2) = false := by rw [o11]; rfl
        have r2 : (t.op != 2) = true := by rw [o11]; rfl
        have p3 : (t.op == 3) = false := by rw [o11]; rfl
        have r3 : (t.op != 3) = true := by rw [o11]; rfl
        have p16 : (t.op == 16) = false := by rw [o11]; rfl
        have r16 : (t.op != 16) = true := by rw [o11]; rfl
        have p5 : (t.op == 5) = false := by rw [o11]; rfl
        have r5 : (t.op != 5) = true := by rw [o11]; rfl
        have p6 : (t.op == 6) = false := by rw [o11]; rfl
        have r6 : (t.op != 6) = true := by rw [o11]; rfl
        have p4 : (t.op == 4) = false := by rw [o11]; rfl
        have r4 : (t.op != 4) = true := by rw [o11]; rfl
        have p10 : (t.op == 10) = false := by rw [o11]; rfl
        have r10 : (t.op != 10) = true := by rw [o11]; rfl
        have p11 : (t.op == 11) = true := by rw [o11]; rfl
        have r11 : (t.op != 11) = false := by rw [o11]; rfl
        have p12 : (t.op == 12) = false := by rw [o11]; rfl
        have r12 : (t.op != 12) = true := by rw [o11]; rfl
        have p13 : (t.op == 13) = false := by rw [o11]; rfl
        have r13 : (t.op != 13) = true := by rw [o11]; rfl
        have p14 : (t.op == 14) = false := by rw [o11]; rfl
        have r14 : (t.op != 14) = true := by rw [o11]; rfl
        have p9 : (t.op == 9) = false := by rw [o11]; rfl
        have r9 : (t.op != 9) = true := by rw [o11]; rfl
        have p15 : (t.op == 15) = false := by rw [o11]; rfl
        have r15 : (t.op != 15) = true := by rw [o11]; rfl
        have p7 : (t.op == 7) = false := by rw [o11]; rfl
        have r7 : (t.op != 7) = true := by rw [o11]; rfl
        clear o11
        go_enter Try.func105, Try.ntmps105
        go_wp2_with fail
        go_quiet (fail)
        go_wp2_with fail
        go_ret
        first | exact ⟨ret_bool (hx.out.symm), E.out.trans (B7.out.mono E.out.size)⟩ | exact ⟨ret_bool (hx.out.symm), E.out.trans (B8.out.mono E.out.size)⟩ | exact ⟨ret_bool (hx.out.symm), E.out.trans (B9.out.mono E.out.size)⟩ | exact ⟨ret_bool (hx.out.symm), E.out⟩ | exact ⟨ret_bool (hx.out.symm), belowN E.out _⟩ | exact ⟨ret_bool (hx.out.symm), (belowN E.out _).drew⟩ | exact ⟨ret_bool (hx.out.symm), (Below.refl _ _).alloc (Nat.le_refl _) _⟩ | exact ⟨ret_bool (hx.out.symm), belowN ((Below.refl _ _).alloc (Nat.le_refl _) _) _⟩
      · skip
        cases te : (t.t.toList.isEmpty)
        · skip
          have iv : inB 11 10 14 = true := by decide
          have hv := Lib.hid (show exp1 t.op t.n t.s t.t t.kids.length = false from by unfold exp1; simp [o11, a, b, te, iv])
          have hx := Lib.hid (show t.exp = false by rw [hte.out, hv.out]; rfl)
          clear iv
          have p1 : (t.op == 1) = false := by rw [o11]; rfl
          have r1 : (t.op != 1) = true := by rw [o11]; rfl
          have p2 : (t.op == 2) = false := by rw [o11]; rfl
          have r2 : (t.op != 2) = true := by rw [o11]; rfl
          have p3 : (t.op == 3) = false := by rw [o11]; rfl
          have r3 : (t.op != 3) = true := by rw [o11]; rfl
          have p16 : (t.op == 16) = false := by rw [o11]; rfl
          have r16 : (t.op != 16) = true := by rw [o11]; rfl
          have p5 : (t.op == 5) = false := by rw [o11]; rfl
          have r5 : (t.op != 5) = true := by rw [o11]; rfl
          have p6 : (t.op == 6) = false := by rw [o11]; rfl
          have r6 : (t.op != 6) = true := by rw [o11]; rfl
          have p4 : (t.op == 4) = false := by rw [o11]; rfl
          have r4 : (t.op != 4) = true := by rw [o11]; rfl
          have p10 : (t.op == 10) = false := by rw [o11]; rfl
          have r10 : (t.op != 10) = true := by rw [o11]; rfl
          have p11 : (t.op == 11) = true := by rw [o11]; rfl
          have r11 : (t.op != 11) = false := by rw [o11]; rfl
          have p12 : (t.op == 12) = false := by rw [o11]; rfl
          have r12 : (t.op != 12) = true := by rw [o11]; rfl
          have p13 : (t.op == 13) = false := by rw [o11]; rfl
          have r13 : (t.op != 13) = true := by rw [o11]; rfl
          have p14 : (t.op == 14) = false := by rw [o11]; rfl
          have r14 : (t.op != 14) = true := by rw [o11]; rfl
          have p9 : (t.op == 9) = false := by rw [o11]; rfl
          have r9 : (t.op != 9) = true := by rw [o11]; rfl
          have p15 : (t.op == 15) = false := by rw [o11]; rfl
          have r15 : (t.op != 15) = true := by rw [o11]; rfl
          have p7 : (t.op == 7) = false := by rw [o11]; rfl
          have r7 : (t.op != 7) = true := by rw [o11]; rfl
          clear o11
          go_enter Try.func105, Try.ntmps105
          go_wp2_with fail
          go_quiet (fail)
          go_wp2_with fail
          go_ret
          first | exact ⟨ret_bool (hx.out.symm), E.out.trans (B7.out.mono E.out.size)⟩ | exact ⟨ret_bool (hx.out.symm), E.out.trans (B8.out.mono E.out.size)⟩ | exact ⟨ret_bool (hx.out.symm), E.out.trans (B9.out.mono E.out.size)⟩ | exact ⟨ret_bool (hx.out.symm), E.out⟩ | exact ⟨ret_bool (hx.out.symm), belowN E.out _⟩ | exact ⟨ret_bool (hx.out.symm), (belowN E.out _).drew⟩ | exact ⟨ret_bool (hx.out.symm), (Below.refl _ _).alloc (Nat.le_refl _) _⟩ | exact ⟨ret_bool (hx.out.symm), belowN ((Below.refl _ _).alloc (Nat.le_refl _) _) _⟩
        · skip
          by_cases hk : t.kids.length = 2
          · skip
            have iv : inB 11 10 14 = true := by decide
            have hv := Lib.hid (show exp1 t.op t.n t.s t.t t.kids.length = true from by unfold exp1; simp [o11, a, b, te, hk, iv])
            have hx := Lib.hid (show t.exp = t.kids.all GNode.exp by rw [hte.out, hv.out, if_neg (by omega), GNode.expL_all]; rfl)
            clear iv
            have p1 : (t.op == 1) = false := by rw [o11]; rfl
            have r1 : (t.op != 1) = true := by rw [o11]; rfl
            have p2 : (t.op == 2) = false := by rw [o11]; rfl
            have r2 : (t.op != 2) = true := by rw [o11]; rfl
            have p3 : (t.op == 3) = false := by rw [o11]; rfl
            have r3 : (t.op != 3) = true := by rw [o11]; rfl
            have p16 : (t.op == 16) = false := by rw [o11]; rfl
            have r16 : (t.op != 16) = true := by rw [o11]; rfl
            have p5 : (t.op == 5) = false := by rw [o11]; rfl
            have r5 : (t.op != 5) = true := by rw [o11]; rfl
            have p6 : (t.op == 6) = false := by rw [o11]; rfl
            have r6 : (t.op != 6) = true := by rw [o11]; rfl
            have p4 : (t.op == 4) = false := by rw [o11]; rfl
            have r4 : (t.op != 4) = true := by rw [o11]; rfl
            have p10 : (t.op == 10) = false := by rw [o11]; rfl
            have r10 : (t.op != 10) = true := by rw [o11]; rfl
            have p11 : (t.op == 11) = true := by rw [o11]; rfl
            have r11 : (t.op != 11) = false := by rw [o11]; rfl
            have p12 : (t.op == 12) = false := by rw [o11]; rfl
            have r12 : (t.op != 12) = true := by rw [o11]; rfl
            have p13 : (t.op == 13) = false := by rw [o11]; rfl
            have r13 : (t.op != 13) = true := by rw [o11]; rfl
            have p14 : (t.op == 14) = false := by rw [o11]; rfl
            have r14 : (t.op != 14) = true := by rw [o11]; rfl
            have p9 : (t.op == 9) = false := by rw [o11]; rfl
            have r9 : (t.op != 9) = true := by rw [o11]; rfl
            have p15 : (t.op == 15) = false := by rw [o11]; rfl
            have r15 : (t.op != 15) = true := by rw [o11]; rfl
            have p7 : (t.op == 7) = false := by rw [o11]; rfl
            have r7 : (t.op != 7) = true := by rw [o11]; rfl
            clear o11
            have hk1 : (t.kids.length == 2) = true := by simp [hk]
            have hk2 : ((t.kids.length : Int) == 2) = true := by rw [beq_iff_eq]; omega
            have Hhk := Lib.hid hk
            clear hk
            go_enter Try.func105, Try.ntmps105
            go_wp2_with fail
            go_quiet (fail)
            go_wp2_with (first | (go_at_call 196; (try rw [← EQ.out]); refine (HAN.out _ (by first | exact B8.out | exact B9.out | exact Below.refl _ _ | exact belowN (Below.refl _ _) _ | exact (belowN (Below.refl _ _) _).drew)).mono ?_; rintro e w7 ⟨rfl, hb7⟩; have B7 : Hid (Below w0.heap.size w0 w7) := (by first | exact Lib.hid (B8.out.trans (hb7.mono B8.out.size)) | exact Lib.hid (B9.out.trans (hb7.mono B9.out.size)) | exact Lib.hid hb7 | exact Lib.hid ((belowN (Below.refl w0.heap.size w0) _).trans hb7) | exact Lib.hid (((belowN (Below.refl w0.heap.size w0) _).drew).trans hb7)); clear hb7))
            go_ret
            first | exact ⟨ret_bool (hx.out.symm), E.out.trans (B7.out.mono E.out.size)⟩ | exact ⟨ret_bool (hx.out.symm), E.out.trans (B8.out.mono E.out.size)⟩ | exact ⟨ret_bool (hx.out.symm), E.out.trans (B9.out.mono E.out.size)⟩ | exact ⟨ret_bool (hx.out.symm), E.out⟩ | exact ⟨ret_bool (hx.out.symm), belowN E.out _⟩ | exact ⟨ret_bool (hx.out.symm), (belowN E.out _).drew⟩ | exact ⟨ret_bool (hx.out.symm), (Below.refl _ _).alloc (Nat.le_refl _) _⟩ | exact ⟨ret_bool (hx.out.symm), belowN ((Below.refl _ _).alloc (Nat.le_refl _) _) _⟩
          · skip
            have iv : inB 11 10 14 = true := by decide
            have hv := Lib.hid (show exp1 t.op t.n t.s t.t t.kids.length = false from by unfold exp1; simp [o11, a, b, te, hk, iv])
            have hx := Lib.hid (show t.exp = false by rw [hte.out, hv.out]; rfl)
            clear iv
            have p1 : (t.op == 1) = false := by rw [o11]; rfl
            have r1 : (t.op != 1) = true := by rw [o11]; rfl
            have p2 : (t.op == 2) = false := by rw [o11]; rfl
            have r2 : (t.op != 2) = true := by rw [o11]; rfl
            have p3 : (t.op == 3) = false := by rw [o11]; rfl
            have r3 : (t.op != 3) = true := by rw [o11]; rfl
            have p16 : (t.op == 16) = false := by rw [o11]; rfl
            have r16 : (t.op != 16) = true := by rw [o11]; rfl
            have p5 : (t.op == 5) = false := by rw [o11]; rfl
            have r5 : (t.op != 5) = true := by rw [o11]; rfl
            have p6 : (t.op == 6) = false := by rw [o11]; rfl
            have r6 : (t.op != 6) = true := by rw [o11]; rfl
            have p4 : (t.op == 4) = false := by rw [o11]; rfl
            have r4 : (t.op != 4) = true := by rw [o11]; rfl
            have p10 : (t.op == 10) = false := by rw [o11]; rfl
            have r10 : (t.op != 10) = true := by rw [o11]; rfl
            have p11 : (t.op == 11) = true := by rw [o11]; rfl
            have r11 : (t.op != 11) = false := by rw [o11]; rfl
            have p12 : (t.op == 12) = false := by rw [o11]; rfl
            have r12 : (t.op != 12) = true := by rw [o11]; rfl
            have p13 : (t.op == 13) = false := by rw [o11]; rfl
            have r13 : (t.op != 13) = true := by rw [o11]; rfl
            have p14 : (t.op == 14) = false := by rw [o11]; rfl
            have r14 : (t.op != 14) = true := by rw [o11]; rfl
            have p9 : (t.op == 9) = false := by rw [o11]; rfl
            have r9 : (t.op != 9) = true := by rw [o11]; rfl
            have p15 : (t.op == 15) = false := by rw [o11]; rfl
            have r15 : (t.op != 15) = true := by rw [o11]; rfl
            have p7 : (t.op == 7) = false := by rw [o11]; rfl
            have r7 : (t.op != 7) = true := by rw [o11]; rfl
            clear o11
            have hk1 : (t.kids.length == 2) = false := by simp [hk]
            have hk2 : ((t.kids.length : Int) == 2) = false := by rw [beq_eq_false_iff_ne]; omega
            have Hhk := Lib.hid hk
            clear hk
            go_enter Try.func105, Try.ntmps105
            go_wp2_with fail
            go_quiet (fail)
            go_wp2_with fail
            go_ret
            first | exact ⟨ret_bool (hx.out.symm), E.out.trans (B7.out.mono E.out.size)⟩ | exact ⟨ret_bool (hx.out.symm), E.out.trans (B8.out.mono E.out.size)⟩ | exact ⟨ret_bool (hx.out.symm), E.out.trans (B9.out.mono E.out.size)⟩ | exact ⟨ret_bool (hx.out.symm), E.out⟩ | exact ⟨ret_bool (hx.out.symm), belowN E.out _⟩ | exact ⟨ret_bool (hx.out.symm), (belowN E.out _).drew⟩ | exact ⟨ret_bool (hx.out.symm), (Below.refl _ _).alloc (Nat.le_refl _) _⟩ | exact ⟨ret_bool (hx.out.symm), belowN ((Below.refl _ _).alloc (Nat.le_refl _) _) _⟩

set_option maxRecDepth 20000 in
theorem implExp_12 (t : GNode) (A1 : Option Addr) (c1 : Nat) (w : World) (o12 : t.op = 12)
    (HKK : ∀ x ∈ t.kids, ∀ (A2 : Option Addr) (c2 : Nat) (w2 : World), GNode.At w2 (Lt w2.heap.size) A2 c2 x → Calls Try.prog 105 #[.agg #[.int .i64 x.op, .int .i64 x.n, .string x.s, .string x.t, .slice A2 x.kids.length c2]] w2 fun e w' => e = .returned (.bool x.exp) ∧ Below w2.heap.size w2 w')
    (HK2 : ∀ y ∈ t.kids, ∀ (A2 : Option Addr) (c2 : Nat) (w2 : World), GNode.At w2 (Lt w2.heap.size) A2 c2 y → Calls Try.prog 197 #[.agg #[.int .i64 y.op, .int .i64 y.n, .string y.s, .string y.t, .slice A2 y.kids.length c2]] w2 fun e w' => e = .returned (.bool y.alt) ∧ Below w2.heap.size w2 w')
    (ht : GNode.At w (Lt w.heap.size) A1 c1 t) :
    Calls Try.prog 105 #[.agg #[.int .i64 t.op, .int .i64 t.n, .string t.s, .string t.t, .slice A1 t.kids.length c1]] w fun e w' => e = .returned (.bool t.exp) ∧ Below w.heap.size w w' := by
    obtain ⟨h0, h1, h2, h3, hs⟩ := id ht
    have hsz2 : t.s.size ≤ 9223372036854775807 := by unfold maxLen at h2; omega
    have hsz3 : t.t.size ≤ 9223372036854775807 := by unfold maxLen at h3; omega
    have hlen : t.kids.length ≤ 9223372036854775807 := by simpa using hs.len
    have hte := Lib.hid t.exp_eq
    obtain ⟨w0, e0⟩ : ∃ w0, w0 = w.alloc (.cells #[.int .i64 t.op, .int .i64 t.n, .string t.s, .string t.t, .slice A1 t.kids.length c1] 49) := ⟨_, rfl⟩
    have E := Lib.hid (show Below w.heap.size w w0 by rw [e0]; exact (Below.refl _ _).alloc (Nat.le_refl _) _)
    have R := Lib.hid (show Row w0 w.heap.size 49 #[.int .i64 t.op, .int .i64 t.n, .string t.s, .string t.t, .slice A1 t.kids.length c1] by rw [e0]; exact Row.new' _ _ _ rfl)
    have EQ := Lib.hid e0
    have HAN := Lib.hid (fun (wx : World) (hb : Below w0.heap.size w0 wx) => implAllNodes 105 (enters Try.func105 (by kernel_rfl) (by kernel_rfl)) #[] GNode.exp t.kids A1 c1 wx (hs.below (E.out.trans (hb.mono E.out.size)) (Nat.le_trans E.out.size hb.size)) (fun x hx A2 c2 w2 _ hx2 => HKK x hx A2 c2 w2 hx2))
    have HKH := Lib.hid HKK
    have HAL := Lib.hid HK2
    have HSS := Lib.hid hs
    have hc0 := fun i => R.out.cell i
    clear HKK HK2 e0 h0 h1 h2 h3 hs ht
    cases a : (t.n == 0)
    · skip
      have iv : inB 12 10 14 = true := by decide
      have hv := Lib.hid (show exp1 t.op t.n t.s t.t t.kids.length = false from by unfold exp1; simp [o12, a, iv])
      have hx := Lib.hid (show t.exp = false by rw [hte.out, hv.out]; rfl)
      clear iv
      have p1 : (t.op == 1) = false := by rw [o12]; rfl
      have r1 : (t.op != 1) = true := by rw [o12]; rfl
      have p2 : (t.op == 2) = false := by rw [o12]; rfl
      have r2 : (t.op != 2) = true := by rw [o12]; rfl
      have p3 : (t.op == 3) = false := by rw [o12]; rfl
      have r3 : (t.op != 3) = true := by rw [o12]; rfl
      have p16 : (t.op == 16) = false := by rw [o12]; rfl
      have r16 : (t.op != 16) = true := by rw [o12]; rfl
      have p5 : (t.op == 5) = false := by rw [o12]; rfl
      have r5 : (t.op != 5) = true := by rw [o12]; rfl
      have p6 : (t.op == 6) = false := by rw [o12]; rfl
      have r6 : (t.op != 6) = true := by rw [o12]; rfl
      have p4 : (t.op == 4) = false := by rw [o12]; rfl
      have r4 : (t.op != 4) = true := by rw [o12]; rfl
      have p10 : (t.op == 10) = false := by rw [o12]; rfl
      have r10 : (t.op != 10) = true := by rw [o12]; rfl
      have p11 : (t.op == 11) = false := by rw [o12]; rfl
      have r11 : (t.op != 11) = true := by rw [o12]; rfl
      have p12 : (t.op == 12) = true := by rw [o12]; rfl
      have r12 : (t.op != 12) = false := by rw [o12]; rfl
      have p13 : (t.op == 13) = false := by rw [o12]; rfl
      have r13 : (t.op != 13) = true := by rw [o12]; rfl
      have p14 : (t.op == 14) = false := by rw [o12]; rfl
      have r14 : (t.op != 14) = true := by rw [o12]; rfl
      have p9 : (t.op == 9) = false := by rw [o12]; rfl
      have r9 : (t.op != 9) = true := by rw [o12]; rfl
      have p15 : (t.op == 15) = false := by rw [o12]; rfl
      have r15 : (t.op != 15) = true := by rw [o12]; rfl
      have p7 : (t.op == 7) = false := by rw [o12]; rfl
      have r7 : (t.op != 7) = true := by rw [o12]; rfl
      clear o12
      go_enter Try.func105, Try.ntmps105
      go_wp2_with fail
      go_quiet (fail)
      go_wp2_with fail
      go_ret
      first | exact ⟨ret_bool (hx.out.symm), E.out.trans (B7.out.mono E.out.size)⟩ | exact ⟨ret_bool (hx.out.symm), E.out.trans (B8.out.mono E.out.size)⟩ | exact ⟨ret_bool (hx.out.symm), E.out.trans (B9.out.mono E.out.size)⟩ | exact ⟨ret_bool (hx.out.symm), E.out⟩ | exact ⟨ret_bool (hx.out.symm), belowN E.out _⟩ | exact ⟨ret_bool (hx.out.symm), (belowN E.out _).drew⟩ | exact ⟨ret_bool (hx.out.symm), (Below.refl _ _).alloc (Nat.le_refl _) _⟩ | exact ⟨ret_bool (hx.out.symm), belowN ((Below.refl _ _).alloc (Nat.le_refl _) _) _⟩
    · skip
      cases b : (t.s.toList.isEmpty)
      · skip
        have iv : inB 12 10 14 = true := by decide
        have hv := Lib.hid (show exp1 t.op t.n t.s t.t t.kids.length = false from by unfold exp1; simp [o12, a, b, iv])
        have hx := Lib.hid (show t.exp = false by rw [hte.out, hv.out]; rfl)
        clear iv
        have p1 : (t.op == 1) = false := by rw [o12]; rfl
        have r1 : (t.op != 1) = true := by rw [o12]; rfl
        have p2 : (t.op == 2) = false := by rw [o12]; rfl
        have r2 : (t.op != 2) = true := by rw [o12]; rfl
        have p3 : (t.op == 3) = false := by rw [o12]; rfl
        have r3 : (t.op != 3) = true := by rw [o12]; rfl
        have p16 : (t.op == 16) = false := by rw [o12]; rfl
        have r16 : (t.op != 16) = true := by rw [o12]; rfl
        have p5 : (t.op == 5) = false := by rw [o12]; rfl
        have r5 : (t.op != 5) = true := by rw [o12]; rfl
        have p6 : (t.op == 6) = false := by rw [o12]; rfl
        have r6 : (t.op != 6) = true := by rw [o12]; rfl
        have p4 : (t.op == 4) = false := by rw [o12]; rfl
        have r4 : (t.op != 4) = true := by rw [o12]; rfl
        have p10 : (t.op == 10) = false := by rw [o12]; rfl
        have r10 : (t.op != 10) = true := by rw [o12]; rfl
        have p11 : (t.op == 11) = false := by rw [o12]; rfl
        have r11 : (t.op != 11) = true := by rw [o12]; rfl
        have p12 : (t.op == 12) = true := by rw [o12]; rfl
        have r12 : (t.op != 12) = false := by rw [o12]; rfl
        have p13 : (t.op == 13) = false := by rw [o12]; rfl
        have r13 : (t.op != 13) = true := by rw [o12]; rfl
        have p14 : (t.op == 14) = false := by rw [o12]; rfl
        have r14 : (t.op != 14) = true := by rw [o12]; rfl
        have p9 : (t.op == 9) = false := by rw [o12]; rfl
        have r9 : (t.op != 9) = true := by rw [o12]; rfl
        have p15 : (t.op == 15) = false := by rw [o12]; rfl
        have r15 : (t.op != 15) = true := by rw [o12]; rfl
        have p7 : (t.op == 7) = false := by rw [o12]; rfl
        have r7 : (t.op != 7) = true := by rw [o12]; rfl
        clear o12
        go_enter Try.func105, Try.ntmps105
        go_wp2_with fail
        go_quiet (fail)
        go_wp2_with fail
        go_ret
        first | exact ⟨ret_bool (hx.out.symm), E.out.trans (B7.out.mono E.out.size)⟩ | exact ⟨ret_bool (hx.out.symm), E.out.trans (B8.out.mono E.out.size)⟩ | exact ⟨ret_bool (hx.out.symm), E.out.trans (B9.out.mono E.out.size)⟩ | exact ⟨ret_bool (hx.out.symm), E.out⟩ | exact ⟨ret_bool (hx.out.symm), belowN E.out _⟩ | exact ⟨ret_bool (hx.out.symm), (belowN E.out _).drew⟩ | exact ⟨ret_bool (hx.out.symm), (Below.refl _ _).alloc (Nat.le_refl _) _⟩ | exact ⟨ret_bool (hx.out.symm), belowN ((Below.refl _ _).alloc (Nat.le_refl _) _) _⟩
      · skip
        cases te : (t.t.toList.isEmpty)
        · skip
          have iv : inB 12 10 14 = true := by decide
          have hv := Lib.hid (show exp1 t.op t.n t.s t.t t.kids.length = false from by unfold exp1; simp [o12, a, b, te, iv])
          have hx := Lib.hid (show t.exp = false by rw [hte.out, hv.out]; rfl)
          clear iv
          have p1 : (t.op == 1) = false := by rw [o12]; rfl
          have r1 : (t.op != 1) = true := by rw [o12]; rfl
          have p2 : (t.op == 2) = false := by rw [o12]; rfl
          have r2 : (t.op != 2) = true := by rw [o12]; rfl
          have p3 : (t.op == 3) = false := by rw [o12]; rfl
          have r3 : (t.op != 3) = true := by rw [o12]; rfl
          have p16 : (t.op == 16) = false := by rw [o12]; rfl
          have r16 : (t.op != 16) = true := by rw [o12]; rfl
          have p5 : (t.op == 5) = false := by rw [o12]; rfl
          have r5 : (t.op != 5) = true := by rw [o12]; rfl
          have p6 : (t.op == 6) = false := by rw [o12]; rfl
          have r6 : (t.op != 6) = true := by rw [o12]; rfl
          have p4 : (t.op == 4) = false := by rw [o12]; rfl
          have r4 : (t.op != 4) = true := by rw [o12]; rfl
          have p10 : (t.op == 10) = false := by rw [o12]; rfl
          have r10 : (t.op != 10) = true := by rw [o12]; rfl
          have p11 : (t.op == 11) = false := by rw [o12]; rfl
          have r11 : (t.op != 11) = true := by rw [o12]; rfl
          have p12 : (t.op == 12) = true := by rw [o12]; rfl
          have r12 : (t.op != 12) = false := by rw [o12]; rfl
          have p13 : (t.op == 13) = false := by rw [o12]; rfl
          have r13 : (t.op != 13) = true := by rw [o12]; rfl
          have p14 : (t.op == 14) = false := by rw [o12]; rfl
          have r14 : (t.op != 14) = true := by rw [o12]; rfl
          have p9 : (t.op == 9) = false := by rw [o12]; rfl
          have r9 : (t.op != 9) = true := by rw [o12]; rfl
          have p15 : (t.op == 15) = false := by rw [o12]; rfl
          have r15 : (t.op != 15) = true := by rw [o12]; rfl
          have p7 : (t.op == 7) = false := by rw [o12]; rfl
          have r7 : (t.op != 7) = true := by rw [o12]; rfl
          clear o12
          go_enter Try.func105, Try.ntmps105
          go_wp2_with fail
          go_quiet (fail)
          go_wp2_with fail
          go_ret
          first | exact ⟨ret_bool (hx.out.symm), E.out.trans (B7.out.mono E.out.size)⟩ | exact ⟨ret_bool (hx.out.symm), E.out.trans (B8.out.mono E.out.size)⟩ | exact ⟨ret_bool (hx.out.symm), E.out.trans (B9.out.mono E.out.size)⟩ | exact ⟨ret_bool (hx.out.symm), E.out⟩ | exact ⟨ret_bool (hx.out.symm), belowN E.out _⟩ | exact ⟨ret_bool (hx.out.symm), (belowN E.out _).drew⟩ | exact ⟨ret_bool (hx.out.symm), (Below.refl _ _).alloc (Nat.le_refl _) _⟩ | exact ⟨ret_bool (hx.out.symm), belowN ((Below.refl _ _).alloc (Nat.le_refl _) _) _⟩
        · skip
          by_cases hk : t.kids.length = 2
          · skip
            have iv : inB 12 10 14 = true := by decide
            have hv := Lib.hid (show exp1 t.op t.n t.s t.t t.kids.length = true from by unfold exp1; simp [o12, a, b, te, hk, iv])
            have hx := Lib.hid (show t.exp = t.kids.all GNode.exp by rw [hte.out, hv.out, if_neg (by omega), GNode.expL_all]; rfl)
            clear iv
            have p1 : (t.op == 1) = false := by rw [o12]; rfl
            have r1 : (t.op != 1) = true := by rw [o12]; rfl
            have p2 : (t.op == 2) = false := by rw [o12]; rfl
            have r2 : (t.op != 2) = true := by rw [o12]; rfl
            have p3 : (t.op == 3) = false := by rw [o12]; rfl
            have r3 : (t.op != 3) = true := by rw [o12]; rfl
            have p16 : (t.op == 16) = false := by rw [o12]; rfl
            have r16 : (t.op != 16) = true := by rw [o12]; rfl
            have p5 : (t.op == 5) = false := by rw [o12]; rfl
            have r5 : (t.op != 5) = true := by rw [o12]; rfl
            have p6 : (t.op == 6) = false := by rw [o12]; rfl
            have r6 : (t.op != 6) = true := by rw [o12]; rfl
            have p4 : (t.op == 4) = false := by rw [o12]; rfl
            have r4 : (t.op != 4) = true := by rw [o12]; rfl
            have p10 : (t.op == 10) = false := by rw [o12]; rfl
            have r10 : (t.op != 10) = true := by rw [o12]; rfl
            have p11 : (t.op == 11) = false := by rw [o12]; rfl
            have r11 : (t.op != 11) = true := by rw [o12]; rfl
            have p12 : (t.op == 12) = true := by rw [o12]; rfl
            have r12 : (t.op != 12) = false := by rw [o12]; rfl
            have p13 : (t.op == 13) = false := by rw [o12]; rfl
            have r13 : (t.op != 13) = true := by rw [o12]; rfl
            have p14 : (t.op == 14) = false := by rw [o12]; rfl
            have r14 : (t.op != 14) = true := by rw [o12]; rfl
            have p9 : (t.op == 9) = false := by rw [o12]; rfl
            have r9 : (t.op != 9) = true := by rw [o12]; rfl
            have p15 : (t.op == 15) = false := by rw [o12]; rfl
            have r15 : (t.op != 15) = true := by rw [o12]; rfl
            have p7 : (t.op == 7) = false := by rw [o12]; rfl
            have r7 : (t.op != 7) = true := by rw [o12]; rfl
            clear o12
            have hk1 : (t.kids.length == 2) = true := by simp [hk]
            have hk2 : ((t.kids.length : Int) == 2) = true := by rw [beq_iff_eq]; omega
            have Hhk := Lib.hid hk
            clear hk
            go_enter Try.func105, Try.ntmps105
            go_wp2_with fail
            go_quiet (fail)
            go_wp2_with (first | (go_at_call 196; (try rw [← EQ.out]); refine (HAN.out _ (by first | exact B8.out | exact B9.out | exact Below.refl _ _ | exact belowN (Below.refl _ _) _ | exact (belowN (Below.refl _ _) _).drew)).mono ?_; rintro e w7 ⟨rfl, hb7⟩; have B7 : Hid (Below w0.heap.size w0 w7) := (by first | exact Lib.hid (B8.out.trans (hb7.mono B8.out.size)) | exact Lib.hid (B9.out.trans (hb7.mono B9.out.size)) | exact Lib.hid hb7 | exact Lib.hid ((belowN (Below.refl w0.heap.size w0) _).trans hb7) | exact Lib.hid (((belowN (Below.refl w0.heap.size w0) _).drew).trans hb7)); clear hb7))
            go_ret
            first | exact ⟨ret_bool (hx.out.symm), E.out.trans (B7.out.mono E.out.size)⟩ | exact ⟨ret_bool (hx.out.symm), E.out.trans (B8.out.mono E.out.size)⟩ | exact ⟨ret_bool (hx.out.symm), E.out.trans (B9.out.mono E.out.size)⟩ | exact ⟨ret_bool (hx.out.symm), E.out⟩ | exact ⟨ret_bool (hx.out.symm), belowN E.out _⟩ | exact ⟨ret_bool (hx.out.symm), (belowN E.out _).drew⟩ | exact ⟨ret_bool (hx.out.symm), (Below.refl _ _).alloc (Nat.le_refl _) _⟩ | exact ⟨ret_bool (hx.out.symm), belowN ((Below.refl _ _).alloc (Nat.le_refl _) _) _⟩
          · skip
            have iv : inB 12 10 14 = true := by decide
            have hv := Lib.hid (show exp1 t.op t.n t.s t.t t.kids.length = false from by unfold exp1; simp [o12, a, b, te, hk, iv])
            have hx := Lib.hid (show t.exp = false by rw [hte.out, hv.out]; rfl)
            clear iv
            have p1 : (t.op == 1) = false := by rw [o12]; rfl
            have r1 : (t.op != 1) = true := by rw [o12]; rfl
            have p2 : (t.op == 2) = false := by rw [o12]; rfl
            have r2 : (t.op != 2) = true := by rw [o12]; rfl
            have p3 : (t.op == 3) = false := by rw [o12]; rfl
            have r3 : (t.op != 3) = true := by rw [o12]; rfl
            have p16 : (t.op == 16) = false := by rw [o12]; rfl
            have r16 : (t.op != 16) = true := by rw [o12]; rfl
            have p5 : (t.op == 5) = false := by rw [o12]; rfl
            have r5 : (t.op != 5) = true := by rw [o12]; rfl
            have p6 : (t.op == 6) = false := by rw [o12]; rfl
            have r6 : (t.op != 6) = true := by rw [o12]; rfl
            have p4 : (t.op == 4) = false := by rw [o12]; rfl
            have r4 : (t.op != 4) = true := by rw [o12]; rfl
            have p10 : (t.op == 10) = false := by rw [o12]; rfl
            have r10 : (t.op != 10) = true := by rw [o12]; rfl
            have p11 : (t.op == 11) = false := by rw [o12]; rfl
            have r11 : (t.op != 11) = true := by rw [o12]; rfl
            have p12 : (t.op == 12) = true := by rw [o12]; rfl
            have r12 : (t.op != 12) = false := by rw [o12]; rfl
            have p13 : (t.op == 13) = false := by rw [o12]; rfl
            have r13 : (t.op != 13) = true := by rw [o12]; rfl
            have p14 : (t.op == 14) = false := by rw [o12]; rfl
            have r14 : (t.op != 14) = true := by rw [o12]; rfl
            have p9 : (t.op == 9) = false := by rw [o12]; rfl
            have r9 : (t.op != 9) = true := by rw [o12]; rfl
            have p15 : (t.op == 15) = false := by rw [o12]; rfl
            have r15 : (t.op != 15) = true := by rw [o12]; rfl
            have p7 : (t.op == 7) = false := by rw [o12]; rfl
            have r7 : (t.op != 7) = true := by rw [o12]; rfl
            clear o12
            have hk1 : (t.kids.length == 2) = false := by simp [hk]
            have hk2 : ((t.kids.length : Int) == 2) = false := by rw [beq_eq_false_iff_ne]; omega
            have Hhk := Lib.hid hk
            clear hk
            go_enter Try.func105, Try.ntmps105
            go_wp2_with fail
            go_quiet (fail)
            go_wp2_with fail
            go_ret
            first | exact ⟨ret_bool (hx.out.symm), E.out.trans (B7.out.mono E.out.size)⟩ | exact ⟨ret_bool (hx.out.symm), E.out.trans (B8.out.mono E.out.size)⟩ | exact ⟨ret_bool (hx.out.symm), E.out.trans (B9.out.mono E.out.size)⟩ | exact ⟨ret_bool (hx.out.symm), E.out⟩ | exact ⟨ret_bool (hx.out.symm), belowN E.out _⟩ | exact ⟨ret_bool (hx.out.symm), (belowN E.out _).drew⟩ | exact ⟨ret_bool (hx.out.symm), (Below.refl _ _).alloc (Nat.le_refl _) _⟩ | exact ⟨ret_bool (hx.out.symm), belowN ((Below.refl _ _).alloc (Nat.le_refl _) _) _⟩

set_option maxRecDepth 20000 in
theorem implExp_13 (t : GNode) (A1 : Option Addr) (c1 : Nat) (w : World) (o13 : t.op = 13)
    (HKK : ∀ x ∈ t.kids, ∀ (A2 : Option Addr) (c2 : Nat) (w2 : World), GNode.At w2 (Lt w2.heap.size) A2 c2 x → Calls Try.prog 105 #[.agg #[.int .i64 x.op, .int .i64 x.n, .string x.s, .string x.t, .slice A2 x.kids.length c2]] w2 fun e w' => e = .returned (.bool x.exp) ∧ Below w2.heap.size w2 w')
    (HK2 : ∀ y ∈ t.kids, ∀ (A2 : Option Addr) (c2 : Nat) (w2 : World), GNode.At w2 (Lt w2.heap.size) A2 c2 y → Calls Try.prog 197 #[.agg #[.int .i64 y.op, .int .i64 y.n, .string y.s, .string y.t, .slice A2 y.kids.length c2]] w2 fun e w' => e = .returned (.bool y.alt) ∧ Below w2.heap.size w2 w')
    (ht : GNode.At w (Lt w.heap.size) A1 c1 t) :
    Calls Try.prog 105 #[.agg #[.int .i64 t.op, .int .i64 t.n, .string t.s, .string t.t, .slice A1 t.kids.length c1]] w fun e w' => e = .returned (.bool t.exp) ∧ Below w.heap.size w w' := by
    obtain ⟨h0, h1, h2, h3, hs⟩ := id ht
    have hsz2 : t.s.size ≤ 9223372036854775807 := by unfold maxLen at h2; omega
    have hsz3 : t.t.size ≤ 9223372036854775807 := by unfold maxLen at h3; omega
    have hlen : t.kids.length ≤ 9223372036854775807 := by simpa using hs.len
    have hte := Lib.hid t.exp_eq
    obtain ⟨w0, e0⟩ : ∃ w0, w0 = w.alloc (.cells #[.int .i64 t.op, .int .i64 t.n, .string t.s, .string t.t, .slice A1 t.kids.length c1] 49) := ⟨_, rfl⟩
    have E := Lib.hid (show Below w.heap.size w w0 by rw [e0]; exact (Below.refl _ _).alloc (Nat.le_refl _) _)
    have R := Lib.hid (show Row w0 w.heap.size 49 #[.int .i64 t.op, .int .i64 t.n, .string t.s, .string t.t, .slice A1 t.kids.length c1] by rw [e0]; exact Row.new' _ _ _ rfl)
    have EQ := Lib.hid e0
    have HAN := Lib.hid (fun (wx : World) (hb : Below w0.heap.size w0 wx) => implAllNodes 105 (enters Try.func105 (by kernel_rfl) (by kernel_rfl)) #[] GNode.exp t.kids A1 c1 wx (hs.below (E.out.trans (hb.mono E.out.size)) (Nat.le_trans E.out.size hb.size)) (fun x hx A2 c2 w2 _ hx2 => HKK x hx A2 c2 w2 hx2))
    have HKH := Lib.hid HKK
    have HAL := Lib.hid HK2
    have HSS := Lib.hid hs
    have hc0 := fun i => R.out.cell i
    clear HKK HK2 e0 h0 h1 h2 h3 hs ht
    cases a : (t.n == 0)
    · skip
      have iv : inB 13 10 14 = true := by decide
      have hv := Lib.hid (show exp1 t.op t.n t.s t.t t.kids.length = false from by unfold exp1; simp [o13, a, iv])
      have hx := Lib.hid (show t.exp = false by rw [hte.out, hv.out]; rfl)
      clear iv
      have p1 : (t.op == 1) = false := by rw [o13]; rfl
      have r1 : (t.op != 1) = true := by rw [o13]; rfl
      have p2 : (t.op == 2) = false := by rw [o13]; rfl
      have r2 : (t.op != 2) = true := by rw [o13]; rfl
      have p3 : (t.op == 3) = false := by rw [o13]; rfl
      have r3 : (t.op != 3) = true := by rw [o13]; rfl
      have p16 : (t.op == 16) = false := by rw [o13]; rfl
      have r16 : (t.op != 16) = true := by rw [o13]; rfl
      have p5 : (t.op == 5) = false := by rw [o13]; rfl
      have r5 : (t.op != 5) = true := by rw [o13]; rfl
      have p6 : (t.op == 6) = false := by rw [o13]; rfl
      have r6 : (t.op != 6) = true := by rw [o13]; rfl
      have p4 : (t.op == 4) = false := by rw [o13]; rfl
      have r4 : (t.op != 4) = true := by rw [o13]; rfl
      have p10 : (t.op == 10) = false := by rw [o13]; rfl
      have r10 : (t.op != 10) = true := by rw [o13]; rfl
      have p11 : (t.op == 11) = false := by rw [o13]; rfl
      have r11 : (t.op != 11) = true := by rw [o13]; rfl
      have p12 : (t.op == 12) = false := by rw [o13]; rfl
      have r12 : (t.op != 12) = true := by rw [o13]; rfl
      have p13 : (t.op == 13) = true := by rw [o13]; rfl
      have r13 : (t.op != 13) = false := by rw [o13]; rfl
      have p14 : (t.op == 14) = false := by rw [o13]; rfl
      have r14 : (t.op != 14) = true := by rw [o13]; rfl
      have p9 : (t.op == 9) = false := by rw [o13]; rfl
      have r9 : (t.op != 9) = true := by rw [o13]; rfl
      have p15 : (t.op == 15) = false := by rw [o13]; rfl
      have r15 : (t.op != 15) = true := by rw [o13]; rfl
      have p7 : (t.op == 7) = false := by rw [o13]; rfl
      have r7 : (t.op != 7) = true := by rw [o13]; rfl
      clear o13
      go_enter Try.func105, Try.ntmps105
      go_wp2_with fail
      go_quiet (fail)
      go_wp2_with fail
      go_ret
      first | exact ⟨ret_bool (hx.out.symm), E.out.trans (B7.out.mono E.out.size)⟩ | exact ⟨ret_bool (hx.out.symm), E.out.trans (B8.out.mono E.out.size)⟩ | exact ⟨ret_bool (hx.out.symm), E.out.trans (B9.out.mono E.out.size)⟩ | exact ⟨ret_bool (hx.out.symm), E.out⟩ | exact ⟨ret_bool (hx.out.symm), belowN E.out _⟩ | exact ⟨ret_bool (hx.out.symm), (belowN E.out _).drew⟩ | exact ⟨ret_bool (hx.out.symm), (Below.refl _ _).alloc (Nat.le_refl _) _⟩ | exact ⟨ret_bool (hx.out.symm), belowN ((Below.refl _ _).alloc (Nat.le_refl _) _) _⟩
    · skip
      cases b : (t.s.toList.isEmpty)
      · skip
        have iv : inB 13 10 14 = true := by decide
        have hv := Lib.hid (show exp1 t.op t.n t.s t.t t.kids.length = false from by unfold exp1; simp [o13, a, b, iv])
        have hx := Lib.hid (show t.exp = false by rw [hte.out, hv.out]; rfl)
        clear iv
        have p1 : (t.op == 1) = false := by rw [o13]; rfl
        have r1 : (t.op != 1) = true := by rw [o13]; rfl
        have p2 : (t.op == 2) = false := by rw [o13]; rfl
        have r2 : (t.op != 2) = true := by rw [o13]; rfl
        have p3 : (t.op == 3) = false := by rw [o13]; rfl
        have r3 : (t.op != 3) = true := by rw [o13]; rfl
        have p16 : (t.op == 16) = false := by rw [o13]; rfl
        have r16 : (t.op != 16) = true := by rw [o13]; rfl
        have p5 : (t.op == 5) = false := by rw [o13]; rfl
        have r5 : (t.op != 5) = true := by rw [o13]; rfl
        have p6 : (t.op == 6) = false := by rw [o13]; rfl
        have r6 : (t.op != 6) = true := by rw [o13]; rfl
        have p4 : (t.op == 4) = false := by rw [o13]; rfl
        have r4 : (t.op != 4) = true := by rw [o13]; rfl
        have p10 : (t.op == 10) = false := by rw [o13]; rfl
        have r10 : (t.op != 10) = true := by rw [o13]; rfl
        have p11 : (t.op == 11) = false := by rw [o13]; rfl
        have r11 : (t.op != 11) = true := by rw [o13]; rfl
        have p12 : (t.op == 12) = false := by rw [o13]; rfl
        have r12 : (t.op != 12) = true := by rw [o13]; rfl
        have p13 : (t.op == 13) = true := by rw [o13]; rfl
        have r13 : (t.op != 13) = false := by rw [o13]; rfl
        have p14 : (t.op == 14) = false := by rw [o13]; rfl
        have r14 : (t.op != 14) = true := by rw [o13]; rfl
        have p9 : (t.op == 9) = false := by rw [o13]; rfl
        have r9 : (t.op != 9) = true := by rw [o13]; rfl
        have p15 : (t.op == 15) = false := by rw [o13]; rfl
        have r15 : (t.op != 15) = true := by rw [o13]; rfl
        have p7 : (t.op == 7) = false := by rw [o13]; rfl
        have r7 : (t.op != 7) = true := by rw [o13]; rfl
        clear o13
        go_enter Try.func105, Try.ntmps105
        go_wp2_with fail
        go_quiet (fail)
        go_wp2_with fail
        go_ret
        first | exact ⟨ret_bool (hx.out.symm), E.out.trans (B7.out.mono E.out.size)⟩ | exact ⟨ret_bool (hx.out.symm), E.out.trans (B8.out.mono E.out.size)⟩ | exact ⟨ret_bool (hx.out.symm), E.out.trans (B9.out.mono E.out.size)⟩ | exact ⟨ret_bool (hx.out.symm), E.out⟩ | exact ⟨ret_bool (hx.out.symm), belowN E.out _⟩ | exact ⟨ret_bool (hx.out.symm), (belowN E.out _).drew⟩ | exact ⟨ret_bool (hx.out.symm), (Below.refl _ _).alloc (Nat.le_refl _) _⟩ | exact ⟨ret_bool (hx.out.symm), belowN ((Below.refl _ _).alloc (Nat.le_refl _) _) _⟩
      · skip
        cases te : (t.t.toList.isEmpty)
        · skip
          have iv : inB 13 10 14 = true := by decide
          have hv := Lib.hid (show exp1 t.op t.n t.s t.t t.kids.length = false from by unfold exp1; simp [o13, a, b, te, iv])
          have hx := Lib.hid (show t.exp = false by rw [hte.out, hv.out]; rfl)
          clear iv
          have p1 : (t.op == 1) = false := by rw [o13]; rfl
          have r1 : (t.op != 1) = true := by rw [o13]; rfl
          have p2 : (t.op == 2) = false := by rw [o13]; rfl
          have r2 : (t.op != 2) = true := by rw [o13]; rfl
          have p3 : (t.op == 3) = false := by rw [o13]; rfl
          have r3 : (t.op != 3) = true := by rw [o13]; rfl
          have p16 : (t.op == 16) = false := by rw [o13]; rfl
          have r16 : (t.op != 16) = true := by rw [o13]; rfl
          have p5 : (t.op == 5) = false := by rw [o13]; rfl
          have r5 : (t.op != 5) = true := by rw [o13]; rfl
          have p6 : (t.op == 6) = false := by rw [o13]; rfl
          have r6 : (t.op != 6) = true := by rw [o13]; rfl
          have p4 : (t.op == 4) = false := by rw [o13]; rfl
          have r4 : (t.op != 4) = true := by rw [o13]; rfl
          have p10 : (t.op == 10) = false := by rw [o13]; rfl
          have r10 : (t.op != 10) = true := by rw [o13]; rfl
          have p11 : (t.op == 11) = false := by rw [o13]; rfl
          have r11 : (t.op != 11) = true := by rw [o13]; rfl
          have p12 : (t.op == 12) = false := by rw [o13]; rfl
          have r12 : (t.op != 12) = true := by rw [o13]; rfl
          have p13 : (t.op == 13) = true := by rw [o13]; rfl
          have r13 : (t.op != 13) = false := by rw [o13]; rfl
          have p14 : (t.op == 14) = false := by rw [o13]; rfl
          have r14 : (t.op != 14) = true := by rw [o13]; rfl
          have p9 : (t.op == 9) = false := by rw [o13]; rfl
          have r9 : (t.op != 9) = true := by rw [o13]; rfl
          have p15 : (t.op == 15) = false := by rw [o13]; rfl
          have r15 : (t.op != 15) = true := by rw [o13]; rfl
          have p7 : (t.op == 7) = false := by rw [o13]; rfl
          have r7 : (t.op != 7) = true := by rw [o13]; rfl
          clear o13
          go_enter Try.func105, Try.ntmps105
          go_wp2_with fail
          go_quiet (fail)
          go_wp2_with fail
          go_ret
          first | exact ⟨ret_bool (hx.out.symm), E.out.trans (B7.out.mono E.out.size)⟩ | exact ⟨ret_bool (hx.out.symm), E.out.trans (B8.out.mono E.out.size)⟩ | exact ⟨ret_bool (hx.out.symm), E.out.trans (B9.out.mono E.out.size)⟩ | exact ⟨ret_bool (hx.out.symm), E.out⟩ | exact ⟨ret_bool (hx.out.symm), belowN E.out _⟩ | exact ⟨ret_bool (hx.out.symm), (belowN E.out _).drew⟩ | exact ⟨ret_bool (hx.out.symm), (Below.refl _ _).alloc (Nat.le_refl _) _⟩ | exact ⟨ret_bool (hx.out.symm), belowN ((Below.refl _ _).alloc (Nat.le_refl _) _) _⟩
        · skip
          by_cases hk : t.kids.length = 2
          · skip
            have iv : inB 13 10 14 = true := by decide
            have hv := Lib.hid (show exp1 t.op t.n t.s t.t t.kids.length = true from by unfold exp1; simp [o13, a, b, te, hk, iv])
            have hx := Lib.hid (show t.exp = t.kids.all GNode.exp by rw [hte.out, hv.out, if_neg (by omega), GNode.expL_all]; rfl)
            clear iv
            have p1 : (t.op == 1) = false := by rw [o13]; rfl
            have r1 : (t.op != 1) = true := by rw [o13]; rfl
            have p2 : (t.op == 2) = false := by rw [o13]; rfl
            have r2 : (t.op != 2) = true := by rw [o13]; rfl
            have p3 : (t.op == 3) = false := by rw [o13]; rfl
            have r3 : (t.op != 3) = true := by rw [o13]; rfl
            have p16 : (t.op == 16) = false := by rw [o13]; rfl
            have r16 : (t.op != 16) = true := by rw [o13]; rfl
            have p5 : (t.op == 5) = false := by rw [o13]; rfl
            have r5 : (t.op != 5) = true := by rw [o13]; rfl
            have p6 : (t.op == 6) = false := by rw [o13]; rfl
            have r6 : (t.op != 6) = true := by rw [o13]; rfl
            have p4 : (t.op == 4) = false := by rw [o13]; rfl
            have r4 : (t.op != 4) = true := by rw [o13]; rfl
            have p10 : (t.op == 10) = false := by rw [o13]; rfl
            have r10 : (t.op != 10) = true := by rw [o13]; rfl
            have p11 : (t.op == 11) = false := by rw [o13]; rfl
            have r11 : (t.op != 11) = true := by rw [o13]; rfl
            have p12 : (t.op == 12) = false := by rw [o13]; rfl
            have r12 : (t.op != 12) = true := by rw [o13]; rfl
            have p13 : (t.op == 13) = true := by rw [o13]; rfl
            have r13 : (t.op != 13) = false := by rw [o13]; rfl
            have p14 : (t.op == 14) = false := by rw [o13]; rfl
            have r14 : (t.op != 14) = true := by rw [o13]; rfl
            have p9 : (t.op == 9) = false := by rw [o13]; rfl
            have r9 : (t.op != 9) = true := by rw [o13]; rfl
            have p15 : (t.op == 15) = false := by rw [o13]; rfl
            have r15 : (t.op != 15) = true := by rw [o13]; rfl
            have p7 : (t.op == 7) = false := by rw [o13]; rfl
            have r7 : (t.op != 7) = true := by rw [o13]; rfl
            clear o13
            have hk1 : (t.kids.length == 2) = true := by simp [hk]
            have hk2 : ((t.kids.length : Int) == 2) = true := by rw [beq_iff_eq]; omega
            have Hhk := Lib.hid hk
            clear hk
            go_enter Try.func105, Try.ntmps105
            go_wp2_with fail
            go_quiet (fail)
            go_wp2_with (first | (go_at_call 196; (try rw [← EQ.out]); refine (HAN.out _ (by first | exact B8.out | exact B9.out | exact Below.refl _ _ | exact belowN (Below.refl _ _) _ | exact (belowN (Below.refl _ _) _).drew)).mono ?_; rintro e w7 ⟨rfl, hb7⟩; have B7 : Hid (Below w0.heap.size w0 w7) := (by first | exact Lib.hid (B8.out.trans (hb7.mono B8.out.size)) | exact Lib.hid (B9.out.trans (hb7.mono B9.out.size)) | exact Lib.hid hb7 | exact Lib.hid ((belowN (Below.refl w0.heap.size w0) _).trans hb7) | exact Lib.hid (((belowN (Below.refl w0.heap.size w0) _).drew).trans hb7)); clear hb7))
            go_ret
            first | exact ⟨ret_bool (hx.out.symm), E.out.trans (B7.out.mono E.out.size)⟩ | exact ⟨ret_bool (hx.out.symm), E.out.trans (B8.out.mono E.out.size)⟩ | exact ⟨ret_bool (hx.out.symm), E.out.trans (B9.out.mono E.out.size)⟩ | exact ⟨ret_bool (hx.out.symm), E.out⟩ | exact ⟨ret_bool (hx.out.symm), belowN E.out _⟩ | exact ⟨ret_bool (hx.out.symm), (belowN E.out _).drew⟩ | exact ⟨ret_bool (hx.out.symm), (Below.refl _ _).alloc (Nat.le_refl _) _⟩ | exact ⟨ret_bool (hx.out.symm), belowN ((Below.refl _ _).alloc (Nat.le_refl _) _) _⟩
          · skip
            have iv : inB 13 10 14 = true := by decide
            have hv := Lib.hid (show exp1 t.op t.n t.s t.t t.kids.length = false from by unfold exp1; simp [o13, a, b, te, hk, iv])
            have hx := Lib.hid (show t.exp = false by rw [hte.out, hv.out]; rfl)
            clear iv
            have p1 : (t.op == 1) = false := by rw [o13]; rfl
            have r1 : (t.op != 1) = true := by rw [o13]; rfl
            have p2 : (t.op == 2) = false := by rw [o13]; rfl
            have r2 : (t.op != 2) = true := by rw [o13]; rfl
            have p3 : (t.op == 3) = false := by rw [o13]; rfl
            have r3 : (t.op != 3) = true := by rw [o13]; rfl
            have p16 : (t.op == 16) = false := by rw [o13]; rfl
            have r16 : (t.op != 16) = true := by rw [o13]; rfl
            have p5 : (t.op == 5) = false := by rw [o13]; rfl
            have r5 : (t.op != 5) = true := by rw [o13]; rfl
            have p6 : (t.op == 6) = false := by rw [o13]; rfl
            have r6 : (t.op != 6) = true := by rw [o13]; rfl
            have p4 : (t.op == 4) = false := by rw [o13]; rfl
            have r4 : (t.op != 4) = true := by rw [o13]; rfl
            have p10 : (t.op == 10) = false := by rw [o13]; rfl
            have r10 : (t.op != 10) = true := by rw [o13]; rfl
            have p11 : (t.op == 11) = false := by rw [o13]; rfl
            have r11 : (t.op != 11) = true := by rw [o13]; rfl
            have p12 : (t.op == 12) = false := by rw [o13]; rfl
            have r12 : (t.op != 12) = true := by rw [o13]; rfl
            have p13 : (t.op == 13) = true := by rw [o13]; rfl
            have r13 : (t.op != 13) = false := by rw [o13]; rfl
            have p14 : (t.op == 14) = false := by rw [o13]; rfl
            have r14 : (t.op != 14) = true := by rw [o13]; rfl
            have p9 : (t.op == 9) = false := by rw [o13]; rfl
            have r9 : (t.op != 9) = true := by rw [o13]; rfl
            have p15 : (t.op == 15) = false := by rw [o13]; rfl
            have r15 : (t.op != 15) = true := by rw [o13]; rfl
            have p7 : (t.op == 7) = false := by rw [o13]; rfl
            have r7 : (t.op != 7) = true := by rw [o13]; rfl
            clear o13
            have hk1 : (t.kids.length == 2) = false := by simp [hk]
            have hk2 : ((t.kids.length : Int) == 2) = false := by rw [beq_eq_false_iff_ne]; omega
            have Hhk := Lib.hid hk
            clear hk
            go_enter Try.func105, Try.ntmps105
            go_wp2_with fail
            go_quiet (fail)
            go_wp2_with fail
            go_ret
            first | exact ⟨ret_bool (hx.out.symm), E.out.trans (B7.out.mono E.out.size)⟩ | exact ⟨ret_bool (hx.out.symm), E.out.trans (B8.out.mono E.out.size)⟩ | exact ⟨ret_bool (hx.out.symm), E.out.trans (B9.out.mono E.out.size)⟩ | exact ⟨ret_bool (hx.out.symm), E.out⟩ | exact ⟨ret_bool (hx.out.symm), belowN E.out _⟩ | exact ⟨ret_bool (hx.out.symm), (belowN E.out _).drew⟩ | exact ⟨ret_bool (hx.out.symm), (Below.refl _ _).alloc (Nat.le_refl _) _⟩ | exact ⟨ret_bool (hx.out.symm), belowN ((Below.refl _ _).alloc (Nat.le_refl _) _) _⟩

set_option maxRecDepth 20000 in
theorem implExp_14 (t : GNode) (A1 : Option Addr) (c1 : Nat) (w : World) (o14 : t.op = 14)
    (HKK : ∀ x ∈ t.kids, ∀ (A2 : Option Addr) (c2 : Nat) (w2 : World), GNode.At w2 (Lt w2.heap.size) A2 c2 x → Calls Try.prog 105 #[.agg #[.int .i64 x.op, .int .i64 x.n, .string x.s, .string x.t, .slice A2 x.kids.length c2]] w2 fun e w' => e = .returned (.bool x.exp) ∧ Below w2.heap.size w2 w')
    (HK2 : ∀ y ∈ t.kids, ∀ (A2 : Option Addr) (c2 : Nat) (w2 : World), GNode.At w2 (Lt w2.heap.size) A2 c2 y → Calls Try.prog 197 #[.agg #[.int .i64 y.op, .int .i64 y.n, .string y.s, .string y.t, .slice A2 y.kids.length c2]] w2 fun e w' => e = .returned (.bool y.alt) ∧ Below w2.heap.size w2 w')
    (ht : GNode.At w (Lt w.heap.size) A1 c1 t) :
    Calls Try.prog 105 #[.agg #[.int .i64 t.op, .int .i64 t.n, .string t.s, .string t.t, .slice A1 t.kids.length c1]] w fun e w' => e = .returned (.bool t.exp) ∧ Below w.heap.size w w' := by
    obtain ⟨h0, h1, h2, h3, hs⟩ := id ht
    have hsz2 : t.s.size ≤ 9223372036854775807 := by unfold maxLen at h2; omega
    have hsz3 : t.t.size ≤ 9223372036854775807 := by unfold maxLen at h3; omega
    have hlen : t.kids.length ≤ 9223372036854775807 := by simpa using hs.len
    have hte := Lib.hid t.exp_eq
    obtain ⟨w0, e0⟩ : ∃ w0, w0 = w.alloc (.cells #[.int .i64 t.op, .int .i64 t.n, .string t.s, .string t.t, .slice A1 t.kids.length c1] 49) := ⟨_, rfl⟩
    have E := Lib.hid (show Below w.heap.size w w0 by rw [e0]; exact (Below.refl _ _).alloc (Nat.le_refl _) _)
    have R := Lib.hid (show Row w0 w.heap.size 49 #[.int .i64 t.op, .int .i64 t.n, .string t.s, .string t.t, .slice A1 t.kids.length c1] by rw [e0]; exact Row.new' _ _ _ rfl)
    have EQ := Lib.hid e0
    have HAN := Lib.hid (fun (wx : World) (hb : Below w0.heap.size w0 wx) => implAllNodes 105 (enters Try.func105 (by kernel_rfl) (by kernel_rfl)) #[] GNode.exp t.kids A1 c1 wx (hs.below (E.out.trans (hb.mono E.out.size)) (Nat.le_trans E.out.size hb.size)) (fun x hx A2 c2 w2 _ hx2 => HKK x hx A2 c2 w2 hx2))
    have HKH := Lib.hid HKK
    have HAL := Lib.hid HK2
    have HSS := Lib.hid hs
    have hc0 := fun i => R.out.cell i
    clear HKK HK2 e0 h0 h1 h2 h3 hs ht
    cases a : (t.n == 0)
    · skip
      have iv : inB 14 10 14 = true := by decide
      have hv := Lib.hid (show exp1 t.op t.n t.s t.t t.kids.length = false from by unfold exp1; simp [o14, a, iv])
      have hx := Lib.hid (show t.exp = false by rw [hte.out, hv.out]; rfl)
      clear iv
      have p1 : (t.op == 1) = false := by rw [o14]; rfl
      have r1 : (t.op != 1) = true := by rw [o14]; rfl
      have p2 : (t.op == 2) = false := by rw [o14]; rfl
      have r2 : (t.op != 2) = true := by rw [o14]; rfl
      have p3 : (t.op == 3) = false := by rw [o14]; rfl
      have r3 : (t.op != 3) = true := by rw [o14]; rfl
      have p16 : (t.op == 16) = false := by rw [o14]; rfl
      have r16 : (t.op != 16) = true := by rw [o14]; rfl
      have p5 : (t.op == 5) = false := by rw [o14]; rfl
      have r5 : (t.op != 5) = true := by rw [o14]; rfl
      have p6 : (t.op == 6) = false := by rw [o14]; rfl
      have r6 : (t.op != 6) = true := by rw [o14]; rfl
      have p4 : (t.op == 4) = false := by rw [o14]; rfl
      have r4 : (t.op != 4) = true := by rw [o14]; rfl
      have p10 : (t.op == 10) = false := by rw [o14]; rfl
      have r10 : (t.op != 10) = true := by rw [o14]; rfl
      have p11 : (t.op == 11) = false := by rw [o14]; rfl
      have r11 : (t.op != 11) = true := by rw [o14]; rfl
      have p12 : (t.op == 12) = false := by rw [o14]; rfl
      have r12 : (t.op != 12) = true := by rw [o14]; rfl
      have p13 : (t.op == 13) = false := by rw [o14]; rfl
      have r13 : (t.op != 13) = true := by rw [o14]; rfl
      have p14 : (t.op == 14) = true := by rw [o14]; rfl
      have r14 : (t.op != 14) = false := by rw [o14]; rfl
      have p9 : (t.op == 9) = false := by rw [o14]; rfl
      have r9 : (t.op != 9) = true := by rw [o14]; rfl
      have p15 : (t.op == 15) = false := by rw [o14]; rfl
      have r15 : (t.op != 15) = true := by rw [o14]; rfl
      have p7 : (t.op == 7) = false := by rw [o14]; rfl
      have r7 : (t.op != 7) = true := by rw [o14]; rfl
      clear o14
      go_enter Try.func105, Try.ntmps105
      go_wp2_with fail
      go_quiet (fail)
      go_wp2_with fail
      go_ret
      first | exact ⟨ret_bool (hx.out.symm), E.out.trans (B7.out.mono E.out.size)⟩ | exact ⟨ret_bool (hx.out.symm), E.out.trans (B8.out.mono E.out.size)⟩ | exact ⟨ret_bool (hx.out.symm), E.out.trans (B9.out.mono E.out.size)⟩ | exact ⟨ret_bool (hx.out.symm), E.out⟩ | exact ⟨ret_bool (hx.out.symm), belowN E.out _⟩ | exact ⟨ret_bool (hx.out.symm), (belowN E.out _).drew⟩ | exact ⟨ret_bool (hx.out.symm), (Below.refl _ _).alloc (Nat.le_refl _) _⟩ | exact ⟨ret_bool (hx.out.symm), belowN ((Below.refl _ _).alloc (Nat.le_refl _) _) _⟩
    · skip
      cases b : (t.s.toList.isEmpty)
      · skip
        have iv : inB 14 10 14 = true := by decide
        have hv := Lib.hid (show exp1 t.op t.n t.s t.t t.kids.length = false from by unfold exp1; simp [o14, a, b, iv])
        have hx := Lib.hid (show t.exp = false by rw [hte.out, hv.out]; rfl)
        clear iv
        have p1 : (t.op == 1) = false := by rw [o14]; rfl
        have r1 : (t.op != 1) = true := by rw [o14]; rfl
        have p2 : (t.op == 2) = false := by rw [o14]; rfl
        have r2 : (t.op != 2) = true := by rw [o14]; rfl
        have p3 : (t.op == 3) = false := by rw [o14]; rfl
        have r3 : (t.op != 3) = true := by rw [o14]; rfl
        have p16 : (t.op == 16) = false := by rw [o14]; rfl
        have r16 : (t.op != 16) = true := by rw [o14]; rfl
        have p5 : (t.op == 5) = false := by rw [o14]; rfl
        have r5 : (t.op != 5) = true := by rw [o14]; rfl
        have p6 : (t.op == 6) = false := by rw [o14]; rfl
        have r6 : (t.op != 6) = true := by rw [o14]; rfl
        have p4 : (t.op == 4) = false := by rw [o14]; rfl
        have r4 : (t.op != 4) = true := by rw [o14]; rfl
        have p10 : (t.op == 10) = false := by rw [o14]; rfl
        have r10 : (t.op != 10) = true := by rw [o14]; rfl
        have p11 : (t.op == 11) = false := by rw [o14]; rfl
        have r11 : (t.op != 11) = true := by rw [o14]; rfl
        have p12 : (t.op == 12) = false := by rw [o14]; rfl
        have r12 : (t.op != 12) = true := by rw [o14]; rfl
        have p13 : (t.op == 13) = false := by rw [o14]; rfl
        have r13 : (t.op != 13) = true := by rw [o14]; rfl
        have p14 : (t.op == 14) = true := by rw [o14]; rfl
        have r14 : (t.op != 14) = false := by rw [o14]; rfl
        have p9 : (t.op == 9) = false := by rw [o14]; rfl
        have r9 : (t.op != 9) = true := by rw [o14]; rfl
        have p15 : (t.op == 15) = false := by rw [o14]; rfl
        have r15 : (t.op != 15) = true := by rw [o14]; rfl
        have p7 : (t.op == 7) = false := by rw [o14]; rfl
        have r7 : (t.op != 7) = true := by rw [o14]; rfl
        clear o14
        go_enter Try.func105, Try.ntmps105
        go_wp2_with fail
        go_quiet (fail)
        go_wp2_with fail
        go_ret
        first | exact ⟨ret_bool (hx.out.symm), E.out.trans (B7.out.mono E.out.size)⟩ | exact ⟨ret_bool (hx.out.symm), E.out.trans (B8.out.mono E.out.size)⟩ | exact ⟨ret_bool (hx.out.symm), E.out.trans (B9.out.mono E.out.size)⟩ | exact ⟨ret_bool (hx.out.symm), E.out⟩ | exact ⟨ret_bool (hx.out.symm), belowN E.out _⟩ | exact ⟨ret_bool (hx.out.symm), (belowN E.out _).drew⟩ | exact ⟨ret_bool (hx.out.symm), (Below.refl _ _).alloc (Nat.le_refl _) _⟩ | exact ⟨ret_bool (hx.out.symm), belowN ((Below.refl _ _).alloc (Nat.le_refl _) _) _⟩
      · skip
        cases te : (t.t.toList.isEmpty)
        · skip
          have iv : inB 14 10 14 = true := by decide
          have hv := Lib.hid (show exp1 t.op t.n t.s t.t t.kids.length = false from by unfold exp1; simp [o14, a, b, te, iv])
          have hx := Lib.hid (show t.exp = false by rw [hte.out, hv.out]; rfl)
          clear iv
          have p1 : (t.op == 1) = false := by rw [o14]; rfl
          have r1 : (t.op != 1) = true := by rw [o14]; rfl
          have p2 : (t.op == 2) = false := by rw [o14]; rfl
          have r2 : (t.op != 2) = true := by rw [o14]; rfl
          have p3 : (t.op == 3) = false := by rw [o14]; rfl
          have r3 : (t.op != 3) = true := by rw [o14]; rfl
          have p16 : (t.op == 16) = false := by rw [o14]; rfl
          have r16 : (t.op != 16) = true := by rw [o14]; rfl
          have p5 : (t.op == 5) = false := by rw [o14]; rfl
          have r5 : (t.op != 5) = true := by rw [o14]; rfl
          have p6 : (t.op == 6) = false := by rw [o14]; rfl
          have r6 : (t.op != 6) = true := by rw [o14]; rfl
          have p4 : (t.op == 4) = false := by rw [o14]; rfl
          have r4 : (t.op != 4) = true := by rw [o14]; rfl
          have p10 : (t.op == 10) = false := by rw [o14]; rfl
          have r10 : (t.op != 10) = true := by rw [o14]; rfl
          have p11 : (t.op == 11) = false := by rw [o14]; rfl
          have r11 : (t.op != 11) = true := by rw [o14]; rfl
          have p12 : (t.op == 12) = false := by rw [o14]; rfl
          have r12 : (t.op != 12) = true := by rw [o14]; rfl
          have p13 : (t.op == 13) = false := by rw [o14]; rfl
          have r13 : (t.op != 13) = true := by rw [o14]; rfl
          have p14 : (t.op == 14) = true := by rw [o14]; rfl
          have r14 : (t.op != 14) = false := by rw [o14]; rfl
          have p9 : (t.op == 9) = false := by rw [o14]; rfl
          have r9 : (t.op != 9) = true := by rw [o14]; rfl
          have p15 : (t.op == 15) = false := by rw [o14]; rfl
          have r15 : (t.op != 15) = true := by rw [o14]; rfl
          have p7 : (t.op == 7) = false := by rw [o14]; rfl
          have r7 : (t.op != 7) = true := by rw [o14]; rfl
          clear o14
          go_enter Try.func105, Try.ntmps105
          go_wp2_with fail
          go_quiet (fail)
          go_wp2_with fail
          go_ret
          first | exact ⟨ret_bool (hx.out.symm), E.out.trans (B7.out.mono E.out.size)⟩ | exact ⟨ret_bool (hx.out.symm), E.out.trans (B8.out.mono E.out.size)⟩ | exact ⟨ret_bool (hx.out.symm), E.out.trans (B9.out.mono E.out.size)⟩ | exact ⟨ret_bool (hx.out.symm), E.out⟩ | exact ⟨ret_bool (hx.out.symm), belowN E.out _⟩ | exact ⟨ret_bool (hx.out.symm), (belowN E.out _).drew⟩ | exact ⟨ret_bool (hx.out.symm), (Below.refl _ _).alloc (Nat.le_refl _) _⟩ | exact ⟨ret_bool (hx.out.symm), belowN ((Below.refl _ _).alloc (Nat.le_refl _) _) _⟩
        · skip
          by_cases hk : t.kids.length = 2
          · skip
            have iv : inB 14 10 14 = true := by decide
            have hv := Lib.hid (show exp1 t.op t.n t.s t.t t.kids.length = true from by unfold exp1; simp [o14, a, b, te, hk, iv])
            have hx := Lib.hid (show t.exp = t.kids.all GNode.exp by rw [hte.out, hv.out, if_neg (by omega), GNode.expL_all]; rfl)
            clear iv
            have p1 : (t.op == 1) = false := by rw [o14]; rfl
            have r1 : (t.op != 1) = true := by rw [o14]; rfl
            have p2 : (t.op == 2) = false := by rw [o14]; rfl
            have r2 : (t.op != 2) = true := by rw [o14]; rfl
            have p3 : (t.op == 3) = false := by rw [o14]; rfl
            have r3 : (t.op != 3) = true := by rw [o14]; rfl
            have p16 : (t.op == 16) = false := by rw [o14]; rfl
            have r16 : (t.op != 16) = true := by rw [o14]; rfl
            have p5 : (t.op == 5) = false := by rw [o14]; rfl
            have r5 : (t.op != 5) = true := by rw [o14]; rfl
            have p6 : (t.op == 6) = false := by rw [o14]; rfl
            have r6 : (t.op != 6) = true := by rw [o14]; rfl
            have p4 : (t.op == 4) = false := by rw [o14]; rfl
            have r4 : (t.op != 4) = true := by rw [o14]; rfl
            have p10 : (t.op == 10) = false := by rw [o14]; rfl
            have r10 : (t.op != 10) = true := by rw [o14]; rfl
            have p11 : (t.op == 11) = false := by rw [o14]; rfl
            have r11 : (t.op != 11) = true := by rw [o14]; rfl
            have p12 : (t.op == 12) = false := by rw [o14]; rfl
            have r12 : (t.op != 12) = true := by rw [o14]; rfl
            have p13 : (t.op == 13) = false := by rw [o14]; rfl
            have r13 : (t.op != 13) = true := by rw [o14]; rfl
            have p14 : (t.op == 14) = true := by rw [o14]; rfl
            have r14 : (t.op != 14) = false := by rw [o14]; rfl
            have p9 : (t.op == 9) = false := by rw [o14]; rfl
            have r9 : (t.op != 9) = true := by rw [o14]; rfl
            have p15 : (t.op == 15) = false := by rw [o14]; rfl
            have r15 : (t.op != 15) = true := by rw [o14]; rfl
            have p7 : (t.op == 7) = false := by rw [o14]; rfl
            have r7 : (t.op != 7) = true := by rw [o14]; rfl
            clear o14
            have hk1 : (t.kids.length == 2) = true := by simp [hk]
            have hk2 : ((t.kids.length : Int) == 2) = true := by rw [beq_iff_eq]; omega
            have Hhk := Lib.hid hk
            clear hk
            go_enter Try.func105, Try.ntmps105
            go_wp2_with fail
            go_quiet (fail)
            go_wp2_with (first | (go_at_call 196; (try rw [← EQ.out]); refine (HAN.out _ (by first | exact B8.out | exact B9.out | exact Below.refl _ _ | exact belowN (Below.refl _ _) _ | exact (belowN (Below.refl _ _) _).drew)).mono ?_; rintro e w7 ⟨rfl, hb7⟩; have B7 : Hid (Below w0.heap.size w0 w7) := (by first | exact Lib.hid (B8.out.trans (hb7.mono B8.out.size)) | exact Lib.hid (B9.out.trans (hb7.mono B9.out.size)) | exact Lib.hid hb7 | exact Lib.hid ((belowN (Below.refl w0.heap.size w0) _).trans hb7) | exact Lib.hid (((belowN (Below.refl w0.heap.size w0) _).drew).trans hb7)); clear hb7))
            go_ret
            first | exact ⟨ret_bool (hx.out.symm), E.out.trans (B7.out.mono E.out.size)⟩ | exact ⟨ret_bool (hx.out.symm), E.out.trans (B8.out.mono E.out.size)⟩ | exact ⟨ret_bool (hx.out.symm), E.out.trans (B9.out.mono E.out.size)⟩ | exact ⟨ret_bool (hx.out.symm), E.out⟩ | exact ⟨ret_bool (hx.out.symm), belowN E.out _⟩ | exact ⟨ret_bool (hx.out.symm), (belowN E.out _).drew⟩ | exact ⟨ret_bool (hx.out.symm), (Below.refl _ _).alloc (Nat.le_refl _) _⟩ | exact ⟨ret_bool (hx.out.symm), belowN ((Below.refl _ _).alloc (Nat.le_refl _) _) _⟩
          · skip
            have iv : inB 14 10 14 = true := by decide
            have hv := Lib.hid (show exp1 t.op t.n t.s t.t t.kids.length = false from by unfold exp1; simp [o14, a, b, te, hk, iv])
            have hx := Lib.hid (show t.exp = false by rw [hte.out, hv.out]; rfl)
            clear iv
            have p1 : (t.op == 1) = false := by rw [o14]; rfl
            have r1 : (t.op != 1) = true := by rw [o14]; rfl
            have p2 : (t.op == 2) = false := by rw [o14]; rfl
            have r2 : (t.op != 2) = true := by rw [o14]; rfl
            have p3 : (t.op == 3) = false := by rw [o14]; rfl
            have r3 : (t.op != 3) = true := by rw [o14]; rfl
            have p16 : (t.op == 16) = false := by rw [o14]; rfl
            have r16 : (t.op != 16) = true := by rw [o14]; rfl
            have p5 : (t.op == 5) = false := by rw [o14]; rfl
            have r5 : (t.op != 5) = true := by rw [o14]; rfl
            have p6 : (t.op == 6) = false := by rw [o14]; rfl
            have r6 : (t.op != 6) = true := by rw [o14]; rfl
            have p4 : (t.op == 4) = false := by rw [o14]; rfl
            have r4 : (t.op != 4) = true := by rw [o14]; rfl
            have p10 : (t.op == 10) = false := by rw [o14]; rfl
            have r10 : (t.op != 10) = true := by rw [o14]; rfl
            have p11 : (t.op == 11) = false := by rw [o14]; rfl
            have r11 : (t.op != 11) = true := by rw [o14]; rfl
            have p12 : (t.op == 12) = false := by rw [o14]; rfl
            have r12 : (t.op != 12) = true := by rw [o14]; rfl
            have p13 : (t.op == 13) = false := by rw [o14]; rfl
            have r13 : (t.op != 13) = true := by rw [o14]; rfl
            have p14 : (t.op == 14) = true := by rw [o14]; rfl
            have r14 : (t.op != 14) = false := by rw [o14]; rfl
            have p9 : (t.op == 9) = false := by rw [o14]; rfl
            have r9 : (t.op != 9) = true := by rw [o14]; rfl
            have p15 : (t.op == 15) = false := by rw [o14]; rfl
            have r15 : (t.op != 15) = true := by rw [o14]; rfl
            have p7 : (t.op == 7) = false := by rw [o14]; rfl
            have r7 : (t.op != 7) = true := by rw [o14]; rfl
            clear o14
            have hk1 : (t.kids.length == 2) = false := by simp [hk]
            have hk2 : ((t.kids.length : Int) == 2) = false := by rw [beq_eq_false_iff_ne]; omega
            have Hhk := Lib.hid hk
            clear hk
            go_enter Try.func105, Try.ntmps105
            go_wp2_with fail
            go_quiet (fail)
            go_wp2_with fail
            go_ret
            first | exact ⟨ret_bool (hx.out.symm), E.out.trans (B7.out.mono E.out.size)⟩ | exact ⟨ret_bool (hx.out.symm), E.out.trans (B8.out.mono E.out.size)⟩ | exact ⟨ret_bool (hx.out.symm), E.out.trans (B9.out.mono E.out.size)⟩ | exact ⟨ret_bool (hx.out.symm), E.out⟩ | exact ⟨ret_bool (hx.out.symm), belowN E.out _⟩ | exact ⟨ret_bool (hx.out.symm), (belowN E.out _).drew⟩ | exact ⟨ret_bool (hx.out.symm), (Below.refl _ _).alloc (Nat.le_refl _) _⟩ | exact ⟨ret_bool (hx.out.symm), belowN ((Below.refl _ _).alloc (Nat.le_refl _) _) _⟩

set_option maxRecDepth 20000 in
theorem implExp_9 (t : GNode) (A1 : Option Addr) (c1 : Nat) (w : World) (o9 : t.op = 9)
    (HKK : ∀ x ∈ t.kids, ∀ (A2 : Option Addr) (c2 : Nat) (w2 : World), GNode.At w2 (Lt w2.heap.size) A2 c2 x → Calls Try.prog 105 #[.agg #[.int .i64 x.op, .int .i64 x.n, .string x.s, .string x.t, .slice A2 x.kids.length c2]] w2 fun e w' => e = .returned (.bool x.exp) ∧ Below w2.heap.size w2 w')
    (HK2 : ∀ y ∈ t.kids, ∀ (A2 : Option Addr) (c2 : Nat) (w2 : World), GNode.At w2 (Lt w2.heap.size) A2 c2 y → Calls Try.prog 197 #[.agg #[.int .i64 y.op, .int .i64 y.n, .string y.s, .string y.t, .slice A2 y.kids.length c2]] w2 fun e w' => e = .returned (.bool y.alt) ∧ Below w2.heap.size w2 w')
    (ht : GNode.At w (Lt w.heap.size) A1 c1 t) :
    Calls Try.prog 105 #[.agg #[.int .i64 t.op, .int .i64 t.n, .string t.s, .string t.t, .slice A1 t.kids.length c1]] w fun e w' => e = .returned (.bool t.exp) ∧ Below w.heap.size w w' := by
    obtain ⟨h0, h1, h2, h3, hs⟩ := id ht
    have hsz2 : t.s.size ≤ 9223372036854775807 := by unfold maxLen at h2; omega
    have hsz3 : t.t.size ≤ 9223372036854775807 := by unfold maxLen at h3; omega
    have hlen : t.kids.length ≤ 9223372036854775807 := by simpa using hs.len
    have hte := Lib.hid t.exp_eq
    obtain ⟨w0, e0⟩ : ∃ w0, w0 = w.alloc (.cells #[.int .i64 t.op, .int .i64 t.n, .string t.s, .string t.t, .slice A1 t.kids.length c1] 49) := ⟨_, rfl⟩
    have E := Lib.hid (show Below w.heap.size w w0 by rw [e0]; exact (Below.refl _ _).alloc (Nat.le_refl _) _)
    have R := Lib.hid (show Row w0 w.heap.size 49 #[.int .i64 t.op, .int .i64 t.n, .string t.s, .string t.t, .slice A1 t.kids.length c1] by rw [e0]; exact Row.new' _ _ _ rfl)
    have EQ := Lib.hid e0
    have HAN := Lib.hid (fun (wx : World) (hb : Below w0.heap.size w0 wx) => implAllNodes 105 (enters Try.func105 (by kernel_rfl) (by kernel_rfl)) #[] GNode.exp t.kids A1 c1 wx (hs.below (E.out.trans (hb.mono E.out.size)) (Nat.le_trans E.out.size hb.size)) (fun x hx A2 c2 w2 _ hx2 => HKK x hx A2 c2 w2 hx2))
    have HKH := Lib.hid HKK
    have HAL := Lib.hid HK2
    have HSS := Lib.hid hs
    have hc0 := fun i => R.out.cell i
    clear HKK HK2 e0 h0 h1 h2 h3 hs ht
    cases a : (t.n == 0)
    · skip
      have hv := Lib.hid (show exp1 t.op t.n t.s t.t t.kids.length = false from by unfold exp1; simp [o9, a])
      have hx := Lib.hid (show t.exp = false by rw [hte.out, hv.out]; rfl)
      have p1 : (t.op == 1) = false := by rw [o9]; rfl
      have r1 : (t.op != 1) = true := by rw [o9]; rfl
      have p2 : (t.op == 2) = false := by rw [o9]; rfl
      have r2 : (t.op != 2) = true := by rw [o9]; rfl
      have p3 : (t.op == 3) = false := by rw [o9]; rfl
      have r3 : (t.op != 3) = true := by rw [o9]; rfl
      have p16 : (t.op == 16) = false := by rw [o9]; rfl
      have r16 : (t.op != 16) = true := by rw [o9]; rfl
      have p5 : (t.op == 5) = false := by rw [o9]; rfl
      have r5 : (t.op != 5) = true := by rw [o9]; rfl
      have p6 : (t.op == 6) = false := by rw [o9]; rfl
      have r6 : (t.op != 6) = true := by rw [o9]; rfl
      have p4 : (t.op == 4) = false := by rw [o9]; rfl
      have r4 : (t.op != 4) = true := by rw [o9]; rfl
      have p10 : (t.op == 10) = false := by rw [o9]; rfl
      have r10 : (t.op != 10) = true := by rw [o9]; rfl
      have p11 : (t.op == 11) = false := by rw [o9]; rfl
      have r11 : (t.op != 11) = true := by rw [o9]; rfl
      have p12 : (t.op == 12) = false := by rw [o9]; rfl
      have r12 : (t.op != 12) = true := by rw [o9]; rfl
      have p13 : (t.op == 13) = false := by rw [o9]; rfl
      have r13 : (t.op != 13) = true := by rw [o9]; rfl
      have p14 : (t.op == 14) = false := by rw [o9]; rfl
      have r14 : (t.op != 14) = true := by rw [o9]; rfl
      have p9 : (t.op == 9) = true := by rw [o9]; rfl
      have r9 : (t.op != 9) = false := by rw [o9]; rfl
      have p15 : (t.op == 15) = false := by rw [o9]; rfl
      have r15 : (t.op != 15) = true := by rw [o9]; rfl
      have p7 : (t.op == 7) = false := by rw [o9]; rfl
      have r7 : (t.op != 7) = true := by rw [o9]; rfl
      clear o9
      go_enter Try.func105, Try.ntmps105
      go_wp2_with fail
      go_quiet (fail)
      go_wp2_with fail
      go_ret
      first | exact ⟨ret_bool (hx.out.symm), E.out.trans (B7.out.mono E.out.size)⟩ | exact ⟨ret_bool (hx.out.symm), E.out.trans (B8.out.mono E.out.size)⟩ | exact ⟨ret_bool (hx.out.symm), E.out.trans (B9.out.mono E.out.size)⟩ | exact ⟨ret_bool (hx.out.symm), E.out⟩ | exact ⟨ret_bool (hx.out.symm), belowN E.out _⟩ | exact ⟨ret_bool (hx.out.symm), (belowN E.out _).drew⟩ | exact ⟨ret_bool (hx.out.symm), (Below.refl _ _).alloc (Nat.le_refl _) _⟩ | exact ⟨ret_bool (hx.out.symm), belowN ((Below.refl _ _).alloc (Nat.le_refl _) _) _⟩
    · skip
      cases b : (t.s.toList.isEmpty)
      · skip
        have hv := Lib.hid (show exp1 t.op t.n t.s t.t t.kids.length = false from by unfold exp1; simp [o9, a, b])
        have hx := Lib.hid (show t.exp = false by rw [hte.out, hv.out]; rfl)
        have p1 : (t.op == 1) = false := by rw [o9]; rfl
        have r1 : (t.op != 1) = true := by rw [o9]; rfl
        have p2 : (t.op == 2) = false := by rw [o9]; rfl
        have r2 : (t.op != 2) = true := by rw [o9]; rfl
        have p3 : (t.op == 3) = false := by rw [o9]; rfl
        have r3 : (t.op != 3) = true := by rw [o9]; rfl
        have p16 : (t.op == 16) = false := by rw [o9]; rfl
        have r16 : (t.op != 16) = true := by rw [o9]; rfl
        have p5 : (t.op == 5) = false := by rw [o9]; rfl
        have r5 : (t.op != 5) = true := by rw [o9]; rfl
        have p6 : (t.op == 6) = false := by rw [o9]; rfl
        have r6 : (t.op != 6) = true := by rw [o9]; rfl
        have p4 : (t.op == 4) = false := by rw [o9]; rfl
        have r4 : (t.op != 4) = true := by rw [o9]; rfl
        have p10 : (t.op == 10) = false := by rw [o9]; rfl
        have r10 : (t.op != 10) = true := by rw [o9]; rfl
        have p11 : (t.op == 11) = false := by rw [o9]; rfl
        have r11 : (t.op != 11) = true := by rw [o9]; rfl
        have p12 : (t.op == 12) = false := by rw [o9]; rfl
        have r12 : (t.op != 12) = true := by rw [o9]; rfl
        have p13 : (t.op == 13) = false := by rw [o9]; rfl
        have r13 : (t.op != 13) = true := by rw [o9]; rfl
        have p14 : (t.op == 14) = false := by rw [o9]; rfl
        have r14 : (t.op != 14) = true := by rw [o9]; rfl
        have p9 : (t.op == 9) = true := by rw [o9]; rfl
        have r9 : (t.op != 9) = false := by rw [o9]; rfl
        have p15 : (t.op == 15) = false := by rw [o9]; rfl
        have r15 : (t.op != 15) = true := by rw [o9]; rfl
        have p7 : (t.op == 7) = false := by rw [o9]; rfl
        have r7 : (t.op != 7) = true := by rw [o9]; rfl
        clear o9
        go_enter Try.func105, Try.ntmps105
        go_wp2_with fail
        go_quiet (fail)
        go_wp2_with fail
        go_ret
        first | exact ⟨ret_bool (hx.out.symm), E.out.trans (B7.out.mono E.out.size)⟩ | exact ⟨ret_bool (hx.out.symm), E.out.trans (B8.out.mono E.out.size)⟩ | exact ⟨ret_bool (hx.out.symm), E.out.trans (B9.out.mono E.out.size)⟩ | exact ⟨ret_bool (hx.out.symm), E.out⟩ | exact ⟨ret_bool (hx.out.symm), belowN E.out _⟩ | exact ⟨ret_bool (hx.out.symm), (belowN E.out _).drew⟩ | exact ⟨ret_bool (hx.out.symm), (Below.refl _ _).alloc (Nat.le_refl _) _⟩ | exact ⟨ret_bool (hx.out.symm), belowN ((Below.refl _ _).alloc (Nat.le_refl _) _) _⟩
      · skip
        cases te : (t.t.toList.isEmpty)
        · skip
          have hv := Lib.hid (show exp1 t.op t.n t.s t.t t.kids.length = false from by unfold exp1; simp [o9, a, b, te])
          have hx := Lib.hid (show t.exp = false by rw [hte.out, hv.out]; rfl)
          have p1 : (t.op == 1) = false := by rw [o9]; rfl
          have r1 : (t.op != 1) = true := by rw [o9]; rfl
          have p2 : (t.op == 2) = false := by rw [o9]; rfl
          have r2 : (t.op != 2) = true := by rw [o9]; rfl
          have p3 : (t.op == 3) = false := by rw [o9]; rfl
          have r3 : (t.op != 3) = true := by rw [o9]; rfl
          have p16 : (t.op == 16) = false := by rw [o9]; rfl
          have r16 : (t.op != 16) = true := by rw [o9]; rfl
          have p5 : (t.op == 5) = false := by rw [o9]; rfl
          have r5 : (t.op != 5) = true := by rw [o9]; rfl
          have p6 : (t.op == 6) = false := by rw [o9]; rfl
          have r6 : (t.op != 6) = true := by rw [o9]; rfl
          have p4 : (t.op == 4) = false := by rw [o9]; rfl
          have r4 : (t.op != 4) = true := by rw [o9]; rfl
          have p10 : (t.op == 10) = false := by rw [o9]; rfl
          have r10 : (t.op != 10) = true := by rw [o9]; rfl
          have p11 : (t.op == 11) = false := by rw [o9]; rfl
          have r11 : (t.op != 11) = true := by rw [o9]; rfl
          have p12 : (t.op == 12) = false := by rw [o9]; rfl
          have r12 : (t.op != 12) = true := by rw [o9]; rfl
          have p13 : (t.op == 13) = false := by rw [o9]; rfl
          have r13 : (t.op != 13) = true := by rw [o9]; rfl
          have p14 : (t.op == 14) = false := by rw [o9]; rfl
          have r14 : (t.op != 14) = true := by rw [o9]; rfl
          have p9 : (t.op == 9) = true := by rw [o9]; rfl
          have r9 : (t.op != 9) = false := by rw [o9]; rfl
          have p15 : (t.op == 15) = false := by rw [o9]; rfl
          have r15 : (t.op != 15) = true := by rw [o9]; rfl
          have p7 : (t.op == 7) = false := by rw [o9]; rfl
          have r7 : (t.op != 7) = true := by rw [o9]; rfl
          clear o9
          go_enter Try.func105, Try.ntmps105
          go_wp2_with fail
          go_quiet (fail)
          go_wp2_with fail
          go_ret
          first | exact ⟨ret_bool (hx.out.symm), E.out.trans (B7.out.mono E.out.size)⟩ | exact ⟨ret_bool (hx.out.symm), E.out.trans (B8.out.mono E.out.size)⟩ | exact ⟨ret_bool (hx.out.symm), E.out.trans (B9.out.mono E.out.size)⟩ | exact ⟨ret_bool (hx.out.symm), E.out⟩ | exact ⟨ret_bool (hx.out.symm), belowN E.out _⟩ | exact ⟨ret_bool (hx.out.symm), (belowN E.out _).drew⟩ | exact ⟨ret_bool (hx.out.symm), (Below.refl _ _).alloc (Nat.le_refl _) _⟩ | exact ⟨ret_bool (hx.out.symm), belowN ((Below.refl _ _).alloc (Nat.le_refl _) _) _⟩
        · skip
          by_cases hk : t.kids.length = 3
          · skip
            have hv := Lib.hid (show exp1 t.op t.n t.s t.t t.kids.length = true from by unfold exp1; simp [o9, a, b, te, hk])
            have hx := Lib.hid (show t.exp = t.kids.all GNode.exp by rw [hte.out, hv.out, if_neg (by omega), GNode.expL_all]; rfl)
            have p1 : (t.op == 1) = false := by rw [o9]; rfl
            have r1 : (t.op != 1) = true := by rw [o9]; rfl
            have p2 : (t.op == 2) = false := by rw [o9]; rfl
            have r2 : (t.op != 2) = true := by rw [o9]; rfl
            have p3 : (t.op == 3) = false := by rw [o9]; rfl
            have r3 : (t.op != 3) = true := by rw [o9]; rfl
            have p16 : (t.op == 16) = false := by rw [o9]; rfl
            have r16 : (t.op != 16) = true := by rw [o9]; rfl
            have p5 : (t.op == 5) = false := by rw [o9]; rfl
            have r5 : (t.op != 5) = true := by rw [o9]; rfl
            have p6 : (t.op == 6) = false := by rw [o9]; rfl
            have r6 : (t.op != 6) = true := by rw [o9]; rfl
            have p4 : (t.op == 4) = false := by rw [o9]; rfl
            have r4 : (t.op != 4) = true := by rw [o9]; rfl
            have p10 : (t.op == 10) = false := by rw [o9]; rfl
            have r10 : (t.op != 10) = true := by rw [o9]; rfl
            have p11 : (t.op == 11) = false := by rw [o9]; rfl
            have r11 : (t.op != 11) = true := by rw [o9]; rfl
            have p12 : (t.op == 12) = false := by rw [o9]; rfl
            have r12 : (t.op != 12) = true := by rw [o9]; rfl
            have p13 : (t.op == 13) = false := by rw [o9]; rfl
            have r13 : (t.op != 13) = true := by rw [o9]; rfl
            have p14 : (t.op == 14) = false := by rw [o9]; rfl
            have r14 : (t.op != 14) = true := by rw [o9]; rfl
            have p9 : (t.op == 9) = true := by rw [o9]; rfl
            have r9 : (t.op != 9) = false := by rw [o9]; rfl
            have p15 : (t.op == 15) = false := by rw [o9]; rfl
            have r15 : (t.op != 15) = true := by rw [o9]; rfl
            have p7 : (t.op == 7) = false := by rw [o9]; rfl
            have r7 : (t.op != 7) = true := by rw [o9]; rfl
            clear o9
            have hk1 : (t.kids.length == 3) = true := by simp [hk]
            have hk2 : ((t.kids.length : Int) == 3) = true := by rw [beq_iff_eq]; omega
            have Hhk := Lib.hid hk
            clear hk
            go_enter Try.func105, Try.ntmps105
            go_wp2_with fail
            go_quiet (fail)
            go_wp2_with (first | (go_at_call 196; (try rw [← EQ.out]); refine (HAN.out _ (by first | exact B8.out | exact B9.out | exact Below.refl _ _ | exact belowN (Below.refl _ _) _ | exact (belowN (Below.refl _ _) _).drew)).mono ?_; rintro e w7 ⟨rfl, hb7⟩; have B7 : Hid (Below w0.heap.size w0 w7) := (by first | exact Lib.hid (B8.out.trans (hb7.mono B8.out.size)) | exact Lib.hid (B9.out.trans (hb7.mono B9.out.size)) | exact Lib.hid hb7 | exact Lib.hid ((belowN (Below.refl w0.heap.size w0) _).trans hb7) | exact Lib.hid (((belowN (Below.refl w0.heap.size w0) _).drew).trans hb7)); clear hb7))
            go_ret
            first | exact ⟨ret_bool (hx.out.symm), E.out.trans (B7.out.mono E.out.size)⟩ | exact ⟨ret_bool (hx.out.symm), E.out.trans (B8.out.mono E.out.size)⟩ | exact ⟨ret_bool (hx.out.symm), E.out.trans (B9.out.mono E.out.size)⟩ | exact ⟨ret_bool (hx.out.symm), E.out⟩ | exact ⟨ret_bool (hx.out.symm), belowN E.out _⟩ | exact ⟨ret_bool (hx.out.symm), (belowN E.out _).drew⟩ | exact ⟨ret_bool (hx.out.symm), (Below.refl _ _).alloc (Nat.le_refl _) _⟩ | exact ⟨ret_bool (hx.out.symm), belowN ((Below.refl _ _).alloc (Nat.le_refl _) _) _⟩
          · skip
            have hv := Lib.hid (show exp1 t.op t.n t.s t.t t.kids.length = false from by unfold exp1; simp [o9, a, b, te, hk])
            have hx := Lib.hid (show t.exp = false by rw [hte.out, hv.out]; rfl)
            have p1 : (t.op == 1) = false := by rw [o9]; rfl
            have r1 : (t.op != 1) = true := by rw [o9]; rfl
            have p2 : (t.op == 2) = false := by rw [o9]; rfl
            have r2 : (t.op != 2) = true := by rw [o9]; rfl
            have p3 : (t.op == 3) = false := by rw [o9]; rfl
            have r3 : (t.op != 3) = true := by rw [o9]; rfl
            have p16 : (t.op == 16) = false := by rw [o9]; rfl
            have r16 : (t.op != 16) = true := by rw [o9]; rfl
            have p5 : (t.op == 5) = false := by rw [o9]; rfl
            have r5 : (t.op != 5) = true := by rw [o9]; rfl
            have p6 : (t.op == 6) = false := by rw [o9]; rfl
            have r6 : (t.op != 6) = true := by rw [o9]; rfl
            have p4 : (t.op == 4) = false := by rw [o9]; rfl
            have r4 : (t.op != 4) = true := by rw [o9]; rfl
            have p10 : (t.op == 10) = false := by rw [o9]; rfl
            have r10 : (t.op != 10) = true := by rw [o9]; rfl
            have p11 : (t.op == 11) = false := by rw [o9]; rfl
            have r11 : (t.op != 11) = true := by rw [o9]; rfl
            have p12 : (t.op == 12) = false := by rw [o9]; rfl
            have r12 : (t.op != 12) = true := by rw [o9]; rfl
            have p13 : (t.op == 13) = false := by rw [o9]; rfl
            have r13 : (t.op != 13) = true := by rw [o9]; rfl
            have p14 : (t.op == 14) = false := by rw [o9]; rfl
            have r14 : (t.op != 14) = true := by rw [o9]; rfl
            have p9 : (t.op == 9) = true := by rw [o9]; rfl
            have r9 : (t.op != 9) = false := by rw [o9]; rfl
            have p15 : (t.op == 15) = false := by rw [o9]; rfl
            have r15 : (t.op != 15) = true := by rw [o9]; rfl
            have p7 : (t.op == 7) = false := by rw [o9]; rfl
            have r7 : (t.op != 7) = true := by rw [o9]; rfl
            clear o9
            have hk1 : (t.kids.length == 3) = false := by simp [hk]
            have hk2 : ((t.kids.length : Int) == 3) = false := by rw [beq_eq_false_iff_ne]; omega
            have Hhk := Lib.hid hk
            clear hk
            go_enter Try.func105, Try.ntmps105
            go_wp2_with fail
            go_quiet (fail)
            go_wp2_with fail
            go_ret
            first | exact ⟨ret_bool (hx.out.symm), E.out.trans (B7.out.mono E.out.size)⟩ | exact ⟨ret_bool (hx.out.symm), E.out.trans (B8.out.mono E.out.size)⟩ | exact ⟨ret_bool (hx.out.symm), E.out.trans (B9.out.mono E.out.size)⟩ | exact ⟨ret_bool (hx.out.symm), E.out⟩ | exact ⟨ret_bool (hx.out.symm), belowN E.out _⟩ | exact ⟨ret_bool (hx.out.symm), (belowN E.out _).drew⟩ | exact ⟨ret_bool (hx.out.symm), (Below.refl _ _).alloc (Nat.le_refl _) _⟩ | exact ⟨ret_bool (hx.out.symm), belowN ((Below.refl _ _).alloc (Nat.le_refl _) _) _⟩

end Go.Proofs.Ytgbcdfeflgnogaa
