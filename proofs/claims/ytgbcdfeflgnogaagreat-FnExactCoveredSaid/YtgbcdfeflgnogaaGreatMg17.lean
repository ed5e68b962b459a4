/- Several texts of this claim in one: NodeI4 NodeI5 NodeI FData. Conditions: none but bounds on sizes. -/
import Derived.Test.YtgbcdfeflgnogaaGreatMg14
import Derived.Deep.RegionLaw
import Derived.Deep.DeepMust
import Derived.Deep.RegionHeld3
import Derived.Test.YtgbcdfeflgnogaaGreatMg15
import Derived.Test.YtgbcdfeflgnogaaGreatMg16
import Derived.Test.YtgbcdfeflgnogaaGreatRows
import Derived.Test.YtgbcdfeflgnogaaGreatMg0
import Derived.Test.YtgbcdfeflgnogaaGreatMg2
import Derived.Test.YtgbcdfeflgnogaaGreatMg5
import Derived.Lib.Hide
/- Expressions that are tidy, in the program (4). Conditions: none. -/
namespace Go.Proofs.YtgbcdfeflgnogaaGreat
open Go.RowKit
set_option linter.unusedVariables false
set_option linter.unusedSimpArgs false
set_option maxHeartbeats 40000000

set_option maxRecDepth 20000 in
theorem implExp_11 (t : GNode) (A1 : Option Addr) (c1 : Nat) (w : World) (o11 : t.op = 11)
    (HKK : ∀ x ∈ t.kids, ∀ (A2 : Option Addr) (c2 : Nat) (w2 : World), GNode.At w2 (Lt w2.heap.size) A2 c2 x → Calls Tryz.prog 31 #[.agg #[.int .i64 x.op, .int .i64 x.n, .string x.s, .string x.t, .slice A2 x.kids.length c2]] w2 fun e w' => e = .returned (.bool x.exp) ∧ Below w2.heap.size w2 w')
    (HK2 : ∀ y ∈ t.kids, ∀ (A2 : Option Addr) (c2 : Nat) (w2 : World), GNode.At w2 (Lt w2.heap.size) A2 c2 y → Calls Tryz.prog 57 #[.agg #[.int .i64 y.op, .int .i64 y.n, .string y.s, .string y.t, .slice A2 y.kids.length c2]] w2 fun e w' => e = .returned (.bool y.alt) ∧ Below w2.heap.size w2 w')
    (ht : GNode.At w (Lt w.heap.size) A1 c1 t) :
    Calls Tryz.prog 31 #[.agg #[.int .i64 t.op, .int .i64 t.n, .string t.s, .string t.t, .slice A1 t.kids.length c1]] w fun e w' => e = .returned (.bool t.exp) ∧ Below w.heap.size w w' := by
    obtain ⟨h0, h1, h2, h3, hs⟩ := id ht
    have hsz2 : t.s.size ≤ 9223372036854775807 := by unfold maxLen at h2; omega
    have hsz3 : t.t.size ≤ 9223372036854775807 := by unfold maxLen at h3; omega
    have hlen : t.kids.length ≤ 9223372036854775807 := by simpa using hs.len
    have hte := Lib.hid t.exp_eq
    obtain ⟨w0, e0⟩ : ∃ w0, w0 = w.alloc (.cells #[.int .i64 t.op, .int .i64 t.n, .string t.s, .string t.t, .slice A1 t.kids.length c1] 33) := ⟨_, rfl⟩
    have E := Lib.hid (show Below w.heap.size w w0 by rw [e0]; exact (Below.refl _ _).alloc (Nat.le_refl _) _)
    have R := Lib.hid (show Row w0 w.heap.size 33 #[.int .i64 t.op, .int .i64 t.n, .string t.s, .string t.t, .slice A1 t.kids.length c1] by rw [e0]; exact Row.new' _ _ _ rfl)
    have EQ := Lib.hid e0
    have HAN := Lib.hid (fun (wx : World) (hb : Below w0.heap.size w0 wx) => implAllNodes 31 (enters Tryz.func31 (by kernel_rfl) (by kernel_rfl)) #[] GNode.exp t.kids A1 c1 wx (hs.below (E.out.trans (hb.mono E.out.size)) (Nat.le_trans E.out.size hb.size)) (fun x hx A2 c2 w2 _ hx2 => HKK x hx A2 c2 w2 hx2))
    have HKH := Lib.hid HKK
    have HAL := Lib.hid HK2
    have HSS := Lib.hid hs
    have hc0 := fun i => R.out.cell i
    clear HKK HK2 e0 h0 h1 h2 h3 hs ht
    cases a : (t.n == 0)
    · skip
      have iv : inB 11 10 14 = true := by decide
      have hv := Lib.hid (show exp1 t.op t.n t.s t.t t.kids.length = false from by unfold exp1; simp [o11, a, iv])
      have hx := Lib.hid (show t.exp = false by rw [hte.out, hv.out]; rfl)
      clear iv
      have p1 : (t.op == 1) = false := by rw [o11]; rfl
      have r1 : (t.op != 1) = true := by rw [o11]; rfl
      have p2 : (t.op == 2) = false := by rw [o11]; rfl
      have r2 : (t.op != 2) = true := by rw [o11]; rfl
      have p3 : (t.op == 3) = false := by rw [o11]; rfl
      have r3 : (t.op != 3) = true := by rw [o11]; rfl
      have p16 : (t.op == 16) = false := by rw [o11]; rfl
      have r16 : (t.op != 16) = true := by rw [o11]; rfl
      have p5 : (t.op == 5) = false := by rw [o11]; rfl
      have r5 : (t.op != 5) = true := by rw [o11]; rfl
      have p6 : (t.op == 6) = false := by rw [o11]; rfl
      have r6 : (t.op != 6) = true := by rw [o11]; rfl
      have p4 : (t.op == 4) = false := by rw [o11]; rfl
      have r4 : (t.op != 4) = true := by rw [o11]; rfl
      have p10 : (t.op == 10) = false := by rw [o11]; rfl
      have r10 : (t.op != 10) = true := by rw [o11]; rfl
      have p11 : (t.op == 11) = true := by rw [o11]; rfl
      have r11 : (t.op != 11) = false := by rw [o11]; rfl
      have p12 : (t.op == 12) = false := by rw [o11]; rfl
      have r12 : (t.op != 12) = true := by rw [o11]; rfl
      have p13 : (t.op == 13) = false := by rw [o11]; rfl
      have r13 : (t.op != 13) = true := by rw [o11]; rfl
      have p14 : (t.op == 14) = false := by rw [o11]; rfl
      have r14 : (t.op != 14) = true := by rw [o11]; rfl
      have p9 : (t.op == 9) = false := by rw [o11]; rfl
      have r9 : (t.op != 9) = true := by rw [o11]; rfl
      have p15 : (t.op == 15) = false := by rw [o11]; rfl
      have r15 : (t.op != 15) = true := by rw [o11]; rfl
      have p7 : (t.op == 7) = false := by rw [o11]; rfl
      have r7 : (t.op != 7) = true := by rw [o11]; rfl
      clear o11
      go_enter Tryz.func31, Tryz.ntmps31
      go_wp2_with fail
      go_quiet (fail)
      go_wp2_with fail
      go_ret
      first | exact ⟨ret_bool (hx.out.symm), E.out.trans (B7.out.mono E.out.size)⟩ | exact ⟨ret_bool (hx.out.symm), E.out.trans (B8.out.mono E.out.size)⟩ | exact ⟨ret_bool (hx.out.symm), E.out.trans (B9.out.mono E.out.size)⟩ | exact ⟨ret_bool (hx.out.symm), E.out⟩ | exact ⟨ret_bool (hx.out.symm), belowN E.out _⟩ | exact ⟨ret_bool (hx.out.symm), (belowN E.out _).drew⟩ | exact ⟨ret_bool (hx.out.symm), (Below.refl _ _).alloc (Nat.le_refl _) _⟩ | exact ⟨ret_bool (hx.out.symm), belowN ((Below.refl _ _).alloc (Nat.le_refl _) _) _⟩
    · skip
      cases b : (t.s.toList.isEmpty)
      · skip
        have iv : inB 11 10 14 = true := by decide
        have hv := Lib.hid (show exp1 t.op t.n t.s t.t t.kids.length = false from by unfold exp1; simp [o11, a, b, iv])
        have hx := Lib.hid (show t.exp = false by rw [hte.out, hv.out]; rfl)
        clear iv
        have p1 : (t.op == 1) = false := by rw [o11]; rfl
        have r1 : (t.op != 1) = true := by rw [o11]; rfl
        have p2 : (t.op == 2) = false := by rw [o11]; rfl
        have r2 : (t.op != 2) = true := by rw [o11]; rfl
        have p3 : (t.op == 3) = false := by rw [o11]; rfl
        have r3 : (t.op != 3) = true := by rw [o11]; rfl
        have p16 : (t.op == 16) = false := by rw [o11]; rfl
        have r16 : (t.op != 16) = true := by rw [o11]; rfl
        have p5 : (t.op == 5) = false := by rw [o11]; rfl
        have r5 : (t.op != 5) = true := by rw [o11]; rfl
        have p6 : (t.op == 6) = false := by rw [o11]; rfl
        have r6 : (t.op != 6) = true := by rw [o11]; rfl
        have p4 : (t.op == 4) = false := by rw [o11]; rfl
        have r4 : (t.op != 4) = true := by rw [o11]; rfl
        have p10 : (t.op == 10) = false := by rw [o11]; rfl
        have r10 : (t.op != 10) = true := by rw [o11]; rfl
        have p11 : (t.op == 11) = true := by rw [o11]; rfl
        have r11 : (t.op != 11) = false := by rw [o11]; rfl
        have p12 : (t.op == 12) = false := by rw [o11]; rfl
        have r12 : (t.op != 12) = true := by rw [o11]; rfl
        have p13 : (t.op == 13) = false := by rw [o11]; rfl
        have r13 : (t.op != 13) = true := by rw [o11]; rfl
        have p14 : (t.op == 14) = false := by rw [o11]; rfl
        have r14 : (t.op != 14) = true := by rw [o11]; rfl
        have p9 : (t.op == 9) = false := by rw [o11]; rfl
        have r9 : (t.op != 9) = true := by rw [o11]; rfl
        have p15 : (t.op == 15) = false := by rw [o11]; rfl
        have r15 : (t.op != 15) = true := by rw [o11]; rfl
        have p7 : (t.op == 7) = false := by rw [o11]; rfl
        have r7 : (t.op != 7) = true := by rw [o11]; rfl
        clear o11
        go_enter Tryz.func31, Tryz.ntmps31
        go_wp2_with fail
        go_quiet (fail)
        go_wp2_with fail
        go_ret
        first | exact ⟨ret_bool (hx.out.symm), E.out.trans (B7.out.mono E.out.size)⟩ | exact ⟨ret_bool (hx.out.symm), E.out.trans (B8.out.mono E.out.size)⟩ | exact ⟨ret_bool (hx.out.symm), E.out.trans (B9.out.mono E.out.size)⟩ | exact ⟨ret_bool (hx.out.symm), E.out⟩ | exact ⟨ret_bool (hx.out.symm), belowN E.out _⟩ | exact ⟨ret_bool (hx.out.symm), (belowN E.out _).drew⟩ | exact ⟨ret_bool (hx.out.symm), (Below.refl _ _).alloc (Nat.le_refl _) _⟩ | exact ⟨ret_bool (hx.out.symm), belowN ((Below.refl _ _).alloc (Nat.le_refl _) _) _⟩
      · skip
        cases te : (t.t.toList.isEmpty)
        · skip
          have iv : inB 11 10 14 = true := by decide
          have hv := Lib.hid (show exp1 t.op t.n t.s t.t t.kids.length = false from by unfold exp1; simp [o11, a, b, te, iv])
          have hx := Lib.hid (show t.exp = false by rw [hte.out, hv.out]; rfl)
          clear iv
          have p1 : (t.op == 1) = false := by rw [o11]; rfl
          have r1 : (t.op != 1) = true := by rw [o11]; rfl
          have p2 : (t.op == 2) = false := by rw [o11]; rfl
          have r2 : (t.op != 2) = true := by rw [o11]; rfl
          have p3 : (t.op == 3) = false := by rw [o11]; rfl
          have r3 : (t.op != 3) = true := by rw [o11]; rfl
          have p16 : (t.op == 16) = false := by rw [o11]; rfl
          have r16 : (t.op != 16) = true := by rw [o11]; rfl
          have p5 : (t.op == 5) = false := by rw [o11]; rfl
          have r5 : (t.op != 5) = true := by rw [o11]; rfl
          have p6 : (t.op == 6) = false := by rw [o11]; rfl
          have r6 : (t.op != 6) = true := by rw [o11]; rfl
          have p4 : (t.op == 4) = false := by rw [o11]; rfl
          have r4 : (t.op != 4) = true := by rw [o11]; rfl
          have p10 : (t.op == 10) = false := by rw [o11]; rfl
          have r10 : (t.op != 10) = true := by rw [o11]; rfl
          have p11 : (t.op == 11) = true := by rw [o11]; rfl
          have r11 : (t.op != 11) = false := by rw [o11]; rfl
          have p12 : (t.op == 12) = false := by rw [o11]; rfl
          have r12 : (t.op != 12) = true := by rw [o11]; rfl
          have p13 : (t.op == 13) = false := by rw [o11]; rfl
          have r13 : (t.op != 13) = true := by rw [o11]; rfl
          have p14 : (t.op == 14) = false := by rw [o11]; rfl
          have r14 : (t.op != 14) = true := by rw [o11]; rfl
          have p9 : (t.op == 9) = false := by rw [o11]; rfl
          have r9 : (t.op != 9) = true := by rw [o11]; rfl
          have p15 : (t.op == 15) = false := by rw [o11]; rfl
          have r15 : (t.op != 15) = true := by rw [o11]; rfl
          have p7 : (t.op == 7) = false := by rw [o11]; rfl
          have r7 : (t.op != 7) = true := by rw [o11]; rfl
          clear o11
          go_enter Tryz.func31, Tryz.ntmps31
          go_wp2_with fail
          go_quiet (fail)
          go_wp2_with fail
          go_ret
          first | exact ⟨ret_bool (hx.out.symm), E.out.trans (B7.out.mono E.out.size)⟩ | exact ⟨ret_bool (hx.out.symm), E.out.trans (B8.out.mono E.out.size)⟩ | exact ⟨ret_bool (hx.out.symm), E.out.trans (B9.out.mono E.out.size)⟩ | exact ⟨ret_bool (hx.out.symm), E.out⟩ | exact ⟨ret_bool (hx.out.symm), belowN E.out _⟩ | exact ⟨ret_bool (hx.out.symm), (belowN E.out _).drew⟩ | exact ⟨ret_bool (hx.out.symm), (Below.refl _ _).alloc (Nat.le_refl _) _⟩ | exact ⟨ret_bool (hx.out.symm), belowN ((Below.refl _ _).alloc (Nat.le_refl _) _) _⟩
        · skip
          by_cases hk : t.kids.length = 2
          · skip
            have iv : inB 11 10 14 = true := by decide
            have hv := Lib.hid (show exp1 t.op t.n t.s t.t t.kids.length = true from by unfold exp1; simp [o11, a, b, te, hk, iv])
            have hx := Lib.hid (show t.exp = t.kids.all GNode.exp by rw [hte.out, hv.out, if_neg (by omega), GNode.expL_all]; rfl)
            clear iv
            have p1 : (t.op == 1) = false := by rw [o11]; rfl
            have r1 : (t.op != 1) = true := by rw [o11]; rfl
            have p2 : (t.op == 2) = false := by rw [o11]; rfl
            have r2 : (t.op != 2) = true := by rw [o11]; rfl
            have p3 : (t.op == 3) = false := by rw [o11]; rfl
            have r3 : (t.op != 3) = true := by rw [o11]; rfl
            have p16 : (t.op == 16) = false := by rw [o11]; rfl
            have r16 : (t.op != 16) = true := by rw [o11]; rfl
            have p5 : (t.op == 5) = false := by rw [o11]; rfl
            have r5 : (t.op != 5) = true := by rw [o11]; rfl
            have p6 : (t.op == 6) = false := by rw [o11]; rfl
            have r6 : (t.op != 6) = true := by rw [o11]; rfl
            have p4 : (t.op == 4) = false := by rw [o11]; rfl
            have r4 : (t.op != 4) = true := by rw [o11]; rfl
            have p10 : (t.op == 10) = false := by rw [o11]; rfl
            have r10 : (t.op != 10) = true := by rw [o11]; rfl
            have p11 : (t.op == 11) = true := by rw [o11]; rfl
            have r11 : (t.op != 11) = false := by rw [o11]; rfl
            have p12 : (t.op == 12) = false := by rw [o11]; rfl
            have r12 : (t.op != 12) = true := by rw [o11]; rfl
            have p13 : (t.op == 13) = false := by rw [o11]; rfl
            have r13 : (t.op != 13) = true := by rw [o11]; rfl
            have p14 : (t.op == 14) = false := by rw [o11]; rfl
            have r14 : (t.op != 14) = true := by rw [o11]; rfl
            have p9 : (t.op == 9) = false := by rw [o11]; rfl
            have r9 : (t.op != 9) = true := by rw [o11]; rfl
            have p15 : (t.op == 15) = false := by rw [o11]; rfl
            have r15 : (t.op != 15) = true := by rw [o11]; rfl
            have p7 : (t.op == 7) = false := by rw [o11]; rfl
            have r7 : (t.op != 7) = true := by rw [o11]; rfl
            clear o11
            have hk1 : (t.kids.length == 2) = true := by simp [hk]
            have hk2 : ((t.kids.length : Int) == 2) = true := by rw [beq_iff_eq]; omega
            have Hhk := Lib.hid hk
            clear hk
            go_enter Tryz.func31, Tryz.ntmps31
            go_wp2_with fail
            go_quiet (fail)
            go_wp2_with (first | (go_at_call 36; (try rw [← EQ.out]); refine (HAN.out _ (by first | exact B8.out | exact B9.out | exact Below.refl _ _ | exact belowN (Below.refl _ _) _ | exact (belowN (Below.refl _ _) _).drew)).mono ?_; rintro e w7 ⟨rfl, hb7⟩; have B7 : Hid (Below w0.heap.size w0 w7) := (by first | exact Lib.hid (B8.out.trans (hb7.mono B8.out.size)) | exact Lib.hid (B9.out.trans (hb7.mono B9.out.size)) | exact Lib.hid hb7 | exact Lib.hid ((belowN (Below.refl w0.heap.size w0) _).trans hb7) | exact Lib.hid (((belowN (Below.refl w0.heap.size w0) _).drew).trans hb7)); clear hb7))
            go_ret
            first | exact ⟨ret_bool (hx.out.symm), E.out.trans (B7.out.mono E.out.size)⟩ | exact ⟨ret_bool (hx.out.symm), E.out.trans (B8.out.mono E.out.size)⟩ | exact ⟨ret_bool (hx.out.symm), E.out.trans (B9.out.mono E.out.size)⟩ | exact ⟨ret_bool (hx.out.symm), E.out⟩ | exact ⟨ret_bool (hx.out.symm), belowN E.out _⟩ | exact ⟨ret_bool (hx.out.symm), (belowN E.out _).drew⟩ | exact ⟨ret_bool (hx.out.symm), (Below.refl _ _).alloc (Nat.le_refl _) _⟩ | exact ⟨ret_bool (hx.out.symm), belowN ((Below.refl _ _).alloc (Nat.le_refl _) _) _⟩
          · skip
            have iv : inB 11 10 14 = true := by decide
            have hv := Lib.hid (show exp1 t.op t.n t.s t.t t.kids.length = false from by unfold exp1; simp [o11, a, b, te, hk, iv])
            have hx := Lib.hid (show t.exp = false by rw [hte.out, hv.out]; rfl)
            clear iv
            have p1 : (t.op == 1) = false := by rw [o11]; rfl
            have r1 : (t.op != 1) = true := by rw [o11]; rfl
            have p2 : (t.op == 2) = false := by rw [o11]; rfl
            have r2 : (t.op != 2) = true := by rw [o11]; rfl
            have p3 : (t.op == 3) = false := by rw [o11]; rfl
            have r3 : (t.op != 3) = true := by rw [o11]; rfl
            have p16 : (t.op == 16) = false := by rw [o11]; rfl
            have r16 : (t.op != 16) = true := by rw [o11]; rfl
            have p5 : (t.op == 5) = false := by rw [o11]; rfl
            have r5 : (t.op != 5) = true := by rw [o11]; rfl
            have p6 : (t.op == 6) = false := by rw [o11]; rfl
            have r6 : (t.op != 6) = true := by rw [o11]; rfl
            have p4 : (t.op == 4) = false := by rw [o11]; rfl
            have r4 : (t.op != 4) = true := by rw [o11]; rfl
            have p10 : (t.op == 10) = false := by rw [o11]; rfl
            have r10 : (t.op != 10) = true := by rw [o11]; rfl
            have p11 : (t.op == 11) = true := by rw [o11]; rfl
            have r11 : (t.op != 11) = false := by rw [o11]; rfl
            have p12 : (t.op == 12) = false := by rw [o11]; rfl
            have r12 : (t.op != 12) = true := by rw [o11]; rfl
            have p13 : (t.op == 13) = false := by rw [o11]; rfl
            have r13 : (t.op != 13) = true := by rw [o11]; rfl
            have p14 : (t.op == 14) = false := by rw [o11]; rfl
            have r14 : (t.op != 14) = true := by rw [o11]; rfl
            have p9 : (t.op == 9) = false := by rw [o11]; rfl
            have r9 : (t.op != 9) = true := by rw [o11]; rfl
            have p15 : (t.op == 15) = false := by rw [o11]; rfl
            have r15 : (t.op != 15) = true := by rw [o11]; rfl
            have p7 : (t.op == 7) = false := by rw [o11]; rfl
            have r7 : (t.op != 7) = true := by rw [o11]; rfl
            clear o11
            have hk1 : (t.kids.length == 2) = false := by simp [hk]
            have hk2 : ((t.kids.length : Int) == 2) = false := by rw [beq_eq_false_iff_ne]; omega
            have Hhk := Lib.hid hk
            clear hk
            go_enter Tryz.func31, Tryz.ntmps31
            go_wp2_with fail
            go_quiet (fail)
            go_wp2_with fail
            go_ret
            first | exact ⟨ret_bool (hx.out.symm), E.out.trans (B7.out.mono E.out.size)⟩ | exact ⟨ret_bool (hx.out.symm), E.out.trans (B8.out.mono E.out.size)⟩ | exact ⟨ret_bool (hx.out.symm), E.out.trans (B9.out.mono E.out.size)⟩ | exact ⟨ret_bool (hx.out.symm), E.out⟩ | exact ⟨ret_bool (hx.out.symm), belowN E.out _⟩ | exact ⟨ret_bool (hx.out.symm), (belowN E.out _).drew⟩ | exact ⟨ret_bool (hx.out.symm), (Below.refl _ _).alloc (Nat.le_refl _) _⟩ | exact ⟨ret_bool (hx.out.symm), belowN ((Below.refl _ _).alloc (Nat.le_refl _) _) _⟩

set_option maxRecDepth 20000 in
theorem implExp_12 (t : GNode) (A1 : Option Addr) (c1 : Nat) (w : World) (o12 : t.op = 12)
    (HKK : ∀ x ∈ t.kids, ∀ (A2 : Option Addr) (c2 : Nat) (w2 : World), GNode.At w2 (Lt w2.heap.size) A2 c2 x → Calls Tryz.prog 31 #[.agg #[.int .i64 x.op, .int .i64 x.n, .string x.s, .string x.t, .slice A2 x.kids.length c2]] w2 fun e w' => e = .returned (.bool x.exp) ∧ Below w2.heap.size w2 w')
    (HK2 : ∀ y ∈ t.kids, ∀ (A2 : Option Addr) (c2 : Nat) (w2 : World), GNode.At w2 (Lt w2.heap.size) A2 c2 y → Calls Tryz.prog 57 #[.agg #[.int .i64 y.op, .int .i64 y.n, .string y.s, .string y.t, .slice A2 y.kids.length c2]] w2 fun e w' => e = .returned (.bool y.alt) ∧ Below w2.heap.size w2 w')
    (ht : GNode.At w (Lt w.heap.size) A1 c1 t) :
    Calls Tryz.prog 31 #[.agg #[.int .i64 t.op, .int .i64 t.n, .string t.s, .string t.t, .slice A1 t.kids.length c1]] w fun e w' => e = .returned (.bool t.exp) ∧ Below w.heap.size w w' := by
    obtain ⟨h0, h1, h2, h3, hs⟩ := id ht
    have hsz2 : t.s.size ≤ 9223372036854775807 := by unfold maxLen at h2; omega
    have hsz3 : t.t.size ≤ 9223372036854775807 := by unfold maxLen at h3; omega
    have hlen : t.kids.length ≤ 9223372036854775807 := by simpa using hs.len
    have hte := Lib.hid t.exp_eq
    obtain ⟨w0, e0⟩ : ∃ w0, w0 = w.alloc (.cells #[.int .i64 t.op, .int .i64 t.n, .string t.s, .string t.t, .slice A1 t.kids.length c1] 33) := ⟨_, rfl⟩
    have E := Lib.hid (show Below w.heap.size w w0 by rw [e0]; exact (Below.refl _ _).alloc (Nat.le_refl _) _)
    have R := Lib.hid (show Row w0 w.heap.size 33 #[.int .i64 t.op, .int .i64 t.n, .string t.s, .string t.t, .slice A1 t.kids.length c1] by rw [e0]; exact Row.new' _ _ _ rfl)
    have EQ := Lib.hid e0
    have HAN := Lib.hid (fun (wx : World) (hb : Below w0.heap.size w0 wx) => implAllNodes 31 (enters Tryz.func31 (by kernel_rfl) (by kernel_rfl)) #[] GNode.exp t.kids A1 c1 wx (hs.below (E.out.trans (hb.mono E.out.size)) (Nat.le_trans E.out.size hb.size)) (fun x hx A2 c2 w2 _ hx2 => HKK x hx A2 c2 w2 hx2))
    have HKH := Lib.hid HKK
    have HAL := Lib.hid HK2
    have HSS := Lib.hid hs
    have hc0 := fun i => R.out.cell i
    clear HKK HK2 e0 h0 h1 h2 h3 hs ht
    cases a : (t.n == 0)
    · skip
      have iv : inB 12 10 14 = true := by decide
      have hv := Lib.hid (show exp1 t.op t.n t.s t.t t.kids.length = false from by unfold exp1; simp [o12, a, iv])
      have hx := Lib.hid (show t.exp = false by rw [hte.out, hv.out]; rfl)
      clear iv
      have p1 : (t.op == 1) = false := by rw [o12]; rfl
      have r1 : (t.op != 1) = true := by rw [o12]; rfl
      have p2 : (t.op == 2) = false := by rw [o12]; rfl
      have r2 : (t.op != 2) = true := by rw [o12]; rfl
      have p3 : (t.op == 3) = false := by rw [o12]; rfl
      have r3 : (t.op != 3) = true := by rw [o12]; rfl
      have p16 : (t.op == 16) = false := by rw [o12]; rfl
      have r16 : (t.op != 16) = true := by rw [o12]; rfl
      have p5 : (t.op == 5) = false := by rw [o12]; rfl
      have r5 : (t.op != 5) = true := by rw [o12]; rfl
      have p6 : (t.op == 6) = false := by rw [o12]; rfl
      have r6 : (t.op != 6) = true := by rw [o12]; rfl
      have p4 : (t.op == 4) = false := by rw [o12]; rfl
      have r4 : (t.op != 4) = true := by rw [o12]; rfl
      have p10 : (t.op == 10) = false := by rw [o12]; rfl
      have r10 : (t.op != 10) = true := by rw [o12]; rfl
      have p11 : (t.op == 11) = false := by rw [o12]; rfl
      have r11 : (t.op != 11) = true := by rw [o12]; rfl
      have p12 : (t.op == 12) = true := by rw [o12]; rfl
      have r12 : (t.op != 12) = false := by rw [o12]; rfl
      have p13 : (t.op == 13) = false := by rw [o12]; rfl
      have r13 : (t.op != 13) = true := by rw [o12]; rfl
      have p14 : (t.op == 14) = false := by rw [o12]; rfl
      have r14 : (t.op != 14) = true := by rw [o12]; rfl
      have p9 : (t.op == 9) = false := by rw [o12]; rfl
      have r9 : (t.op != 9) = true := by rw [o12]; rfl
      have p15 : (t.op == 15) = false := by rw [o12]; rfl
      have r15 : (t.op != 15) = true := by rw [o12]; rfl
      have p7 : (t.op == 7) = false := by rw [o12]; rfl
      have r7 : (t.op != 7) = true := by rw [o12]; rfl
      clear o12
      go_enter Tryz.func31, Tryz.ntmps31
      go_wp2_with fail
      go_quiet (fail)
      go_wp2_with fail
      go_ret
      first | exact ⟨ret_bool (hx.out.symm), E.out.trans (B7.out.mono E.out.size)⟩ | exact ⟨ret_bool (hx.out.symm), E.out.trans (B8.out.mono E.out.size)⟩ | exact ⟨ret_bool (hx.out.symm), E.out.trans (B9.out.mono E.out.size)⟩ | exact ⟨ret_bool (hx.out.symm), E.out⟩ | exact ⟨ret_bool (hx.out.symm), belowN E.out _⟩ | exact ⟨ret_bool (hx.out.symm), (belowN E.out _).drew⟩ | exact ⟨ret_bool (hx.out.symm), (Below.refl _ _).alloc (Nat.le_refl _) _⟩ | exact ⟨ret_bool (hx.out.symm), belowN ((Below.refl _ _).alloc (Nat.le_refl _) _) _⟩
    · skip
      cases b : (t.s.toList.isEmpty)
      · skip
        have iv : inB 12 10 14 = true := by decide
        have hv := Lib.hid (show exp1 t.op t.n t.s t.t t.kids.length = false from by unfold exp1; simp [o12, a, b, iv])
        have hx := Lib.hid (show t.exp = false by rw [hte.out, hv.out]; rfl)
        clear iv
        have p1 : (t.op == 1) = false := by rw [o12]; rfl
        have r1 : (t.op != 1) = true := by rw [o12]; rfl
        have p2 : (t.op == 2) = false := by rw [o12]; rfl
        have r2 : (t.op != 2) = true := by rw [o12]; rfl
        have p3 : (t.op == 3) = false := by rw [o12]; rfl
        have r3 : (t.op != 3) = true := by rw [o12]; rfl
        have p16 : (t.op == 16) = false := by rw [o12]; rfl
        have r16 : (t.op != 16) = true := by rw [o12]; rfl
        have p5 : (t.op == 5) = false := by rw [o12]; rfl
        have r5 : (t.op != 5) = true := by rw [o12]; rfl
        have p6 : (t.op == 6) = false := by rw [o12]; rfl
        have r6 : (t.op != 6) = true := by rw [o12]; rfl
        have p4 : (t.op == 4) = false := by rw [o12]; rfl
        have r4 : (t.op != 4) = true := by rw [o12]; rfl
        have p10 : (t.op == 10) = false := by rw [o12]; rfl
        have r10 : (t.op != 10) = true := by rw [o12]; rfl
        have p11 : (t.op == 11) = false := by rw [o12]; rfl
        have r11 : (t.op != 11) = true := by rw [o12]; rfl
        have p12 : (t.op == 12) = true := by rw [o12]; rfl
        have r12 : (t.op != 12) = false := by rw [o12]; rfl
        have p13 : (t.op == 13) = false := by rw [o12]; rfl
        have r13 : (t.op != 13) = true := by rw [o12]; rfl
        have p14 : (t.op == 14) = false := by rw [o12]; rfl
        have r14 : (t.op != 14) = true := by rw [o12]; rfl
        have p9 : (t.op == 9) = false := by rw [o12]; rfl
        have r9 : (t.op != 9) = true := by rw [o12]; rfl
        have p15 : (t.op == 15) = false := by rw [o12]; rfl
        have r15 : (t.op != 15) = true := by rw [o12]; rfl
        have p7 : (t.op == 7) = false := by rw [o12]; rfl
        have r7 : (t.op != 7) = true := by rw [o12]; rfl
        clear o12
        go_enter Tryz.func31, Tryz.ntmps31
        go_wp2_with fail
        go_quiet (fail)
        go_wp2_with fail
        go_ret
        first | exact ⟨ret_bool (hx.out.symm), E.out.trans (B7.out.mono E.out.size)⟩ | exact ⟨ret_bool (hx.out.symm), E.out.trans (B8.out.mono E.out.size)⟩ | exact ⟨ret_bool (hx.out.symm), E.out.trans (B9.out.mono E.out.size)⟩ | exact ⟨ret_bool (hx.out.symm), E.out⟩ | exact ⟨ret_bool (hx.out.symm), belowN E.out _⟩ | exact ⟨ret_bool (hx.out.symm), (belowN E.out _).drew⟩ | exact ⟨ret_bool (hx.out.symm), (Below.refl _ _).alloc (Nat.le_refl _) _⟩ | exact ⟨ret_bool (hx.out.symm), belowN ((Below.refl _ _).alloc (Nat.le_refl _) _) _⟩
      · skip
        cases te : (t.t.toList.isEmpty)
        · skip
          have iv : inB 12 10 14 = true := by decide
          have hv := Lib.hid (show exp1 t.op t.n t.s t.t t.kids.length = false from by unfold exp1; simp [o12, a, b, te, iv])
          have hx := Lib.hid (show t.exp = false by rw [hte.out, hv.out]; rfl)
          clear iv
          have p1 : (t.op == 1) = false := by rw [o12]; rfl
          have r1 : (t.op != 1) = true := by rw [o12]; rfl
          have p2 : (t.op == 2) = false := by rw [o12]; rfl
          have r2 : (t.op != 2) = true := by rw [o12]; rfl
          have p3 : (t.op == 3) = false := by rw [o12]; rfl
          have r3 : (t.op != 3) = true := by rw [o12]; rfl
          have p16 : (t.op == 16) = false := by rw [o12]; rfl
          have r16 : (t.op != 16) = true := by rw [o12]; rfl
          have p5 : (t.op == 5) = false := by rw [o12]; rfl
          have r5 : (t.op != 5) = true := by rw [o12]; rfl
          have p6 : (t.op == 6) = false := by rw [o12]; rfl
          have r6 : (t.op != 6) = true := by rw [o12]; rfl
          have p4 : (t.op == 4) = false := by rw [o12]; rfl
          have r4 : (t.op != 4) = true := by rw [o12]; rfl
          have p10 : (t.op == 10) = false := by rw [o12]; rfl
          have r10 : (t.op != 10) = true := by rw [o12]; rfl
          have p11 : (t.op == 11) = false := by rw [o12]; rfl
          have r11 : (t.op != 11) = true := by rw [o12]; rfl
          have p12 : (t.op == 12) = true := by rw [o12]; rfl
          have r12 : (t.op != 12) = false := by rw [o12]; rfl
          have p13 : (t.op == 13) = false := by rw [o12]; rfl
          have r13 : (t.op != 13) = true := by rw [o12]; rfl
          have p14 : (t.op == 14) = false := by rw [o12]; rfl
          have r14 : (t.op != 14) = true := by rw [o12]; rfl
          have p9 : (t.op == 9) = false := by rw [o12]; rfl
          have r9 : (t.op != 9) = true := by rw [o12]; rfl
          have p15 : (t.op == 15) = false := by rw [o12]; rfl
          have r15 : (t.op != 15) = true := by rw [o12]; rfl
          have p7 : (t.op == 7) = false := by rw [o12]; rfl
          have r7 : (t.op != 7) = true := by rw [o12]; rfl
          clear o12
          go_enter Tryz.func31, Tryz.ntmps31
          go_wp2_with fail
          go_quiet (fail)
          go_wp2_with fail
          go_ret
          first | exact ⟨ret_bool (hx.out.symm), E.out.trans (B7.out.mono E.out.size)⟩ | exact ⟨ret_bool (hx.out.symm), E.out.trans (B8.out.mono E.out.size)⟩ | exact ⟨ret_bool (hx.out.symm), E.out.trans (B9.out.mono E.out.size)⟩ | exact ⟨ret_bool (hx.out.symm), E.out⟩ | exact ⟨ret_bool (hx.out.symm), belowN E.out _⟩ | exact ⟨ret_bool (hx.out.symm), (belowN E.out _).drew⟩ | exact ⟨ret_bool (hx.out.symm), (Below.refl _ _).alloc (Nat.le_refl _) _⟩ | exact ⟨ret_bool (hx.out.symm), belowN ((Below.refl _ _).alloc (Nat.le_refl _) _) _⟩
        · skip
          by_cases hk : t.kids.length = 2
          · skip
            have iv : inB 12 10 14 = true := by decide
            have hv := Lib.hid (show exp1 t.op t.n t.s t.t t.kids.length = true from by unfold exp1; simp [o12, a, b, te, hk, iv])
            have hx := Lib.hid (show t.exp = t.kids.all GNode.exp by rw [hte.out, hv.out, if_neg (by omega), GNode.expL_all]; rfl)
            clear iv
            have p1 : (t.op == 1) = false := by rw [o12]; rfl
            have r1 : (t.op != 1) = true := by rw [o12]; rfl
            have p2 : (t.op == 2) = false := by rw [o12]; rfl
            have r2 : (t.op != 2) = true := by rw [o12]; rfl
            have p3 : (t.op == 3) = false := by rw [o12]; rfl
            have r3 : (t.op != 3) = true := by rw [o12]; rfl
            have p16 : (t.op == 16) = false := by rw [o12]; rfl
            have r16 : (t.op != 16) = true := by rw [o12]; rfl
            have p5 : (t.op == 5) = false := by rw [o12]; rfl
            have r5 : (t.op != 5) = true := by rw [o12]; rfl
            have p6 : (t.op == 6) = false := by rw [o12]; rfl
            have r6 : (t.op != 6) = true := by rw [o12]; rfl
            have p4 : (t.op == 4) = false := by rw [o12]; rfl
            have r4 : (t.op != 4) = true := by rw [o12]; rfl
            have p10 : (t.op == 10) = false := by rw [o12]; rfl
            have r10 : (t.op != 10) = true := by rw [o12]; rfl
            have p11 : (t.op == 11) = false := by rw [o12]; rfl
            have r11 : (t.op != 11) = true := by rw [o12]; rfl
            have p12 : (t.op == 12) = true := by rw [o12]; rfl
            have r12 : (t.op != 12) = false := by rw [o12]; rfl
            have p13 : (t.op == 13) = false := by rw [o12]; rfl
            have r13 : (t.op != 13) = true := by rw [o12]; rfl
            have p14 : (t.op == 14) = false := by rw [o12]; rfl
            have r14 : (t.op != 14) = true := by rw [o12]; rfl
            have p9 : (t.op == 9) = false := by rw [o12]; rfl
            have r9 : (t.op != 9) = true := by rw [o12]; rfl
            have p15 : (t.op == 15) = false := by rw [o12]; rfl
            have r15 : (t.op != 15) = true := by rw [o12]; rfl
            have p7 : (t.op == 7) = false := by rw [o12]; rfl
            have r7 : (t.op != 7) = true := by rw [o12]; rfl
            clear o12
            have hk1 : (t.kids.length == 2) = true := by simp [hk]
            have hk2 : ((t.kids.length : Int) == 2) = true := by rw [beq_iff_eq]; omega
            have Hhk := Lib.hid hk
            clear hk
            go_enter Tryz.func31, Tryz.ntmps31
            go_wp2_with fail
            go_quiet (fail)
            go_wp2_with (first | (go_at_call 36; (try rw [← EQ.out]); refine (HAN.out _ (by first | exact B8.out | exact B9.out | exact Below.refl _ _ | exact belowN (Below.refl _ _) _ | exact (belowN (Below.refl _ _) _).drew)).mono ?_; rintro e w7 ⟨rfl, hb7⟩; have B7 : Hid (Below w0.heap.size w0 w7) := (by first | exact Lib.hid (B8.out.trans (hb7.mono B8.out.size)) | exact Lib.hid (B9.out.trans (hb7.mono B9.out.size)) | exact Lib.hid hb7 | exact Lib.hid ((belowN (Below.refl w0.heap.size w0) _).trans hb7) | exact Lib.hid (((belowN (Below.refl w0.heap.size w0) _).drew).trans hb7)); clear hb7))
            go_ret
            first | exact ⟨ret_bool (hx.out.symm), E.out.trans (B7.out.mono E.out.size)⟩ | exact ⟨ret_bool (hx.out.symm), E.out.trans (B8.out.mono E.out.size)⟩ | exact ⟨ret_bool (hx.out.symm), E.out.trans (B9.out.mono E.out.size)⟩ | exact ⟨ret_bool (hx.out.symm), E.out⟩ | exact ⟨ret_bool (hx.out.symm), belowN E.out _⟩ | exact ⟨ret_bool (hx.out.symm), (belowN E.out _).drew⟩ | exact ⟨ret_bool (hx.out.symm), (Below.refl _ _).alloc (Nat.le_refl _) _⟩ | exact ⟨ret_bool (hx.out.symm), belowN ((Below.refl _ _).alloc (Nat.le_refl _) _) _⟩
          · skip
            have iv : inB 12 10 14 = true := by decide
            have hv := Lib.hid (show exp1 t.op t.n t.s t.t t.kids.length = false from by unfold exp1; simp [o12, a, b, te, hk, iv])
            have hx := Lib.hid (show t.exp = false by rw [hte.out, hv.out]; rfl)
            clear iv
            have p1 : (t.op == 1) = false := by rw [o12]; rfl
            have r1 : (t.op != 1) = true := by rw [o12]; rfl
            have p2 : (t.op == 2) = false := by rw [o12]; rfl
            have r2 : (t.op != 2) = true := by rw [o12]; rfl
            have p3 : (t.op == 3) = false := by rw [o12]; rfl
            have r3 : (t.op != 3) = true := by rw [o12]; rfl
            have p16 : (t.op == 16) = false := by rw [o12]; rfl
            have r16 : (t.op != 16) = true := by rw [o12]; rfl
            have p5 : (t.op == 5) = false := by rw [o12]; rfl
            have r5 : (t.op != 5) = true := by rw [o12]; rfl
            have p6 : (t.op == 6) = false := by rw [o12]; rfl
            have r6 : (t.op != 6) = true := by rw [o12]; rfl
            have p4 : (t.op == 4) = false := by rw [o12]; rfl
            have r4 : (t.op != 4) = true := by rw [o12]; rfl
            have p10 : (t.op == 10) = false := by rw [o12]; rfl
            have r10 : (t.op != 10) = true := by rw [o12]; rfl
            have p11 : (t.op == 11) = false := by rw [o12]; rfl
            have r11 : (t.op != 11) = true := by rw [o12]; rfl
            have p12 : (t.op == 12) = true := by rw [o12]; rfl
            have r12 : (t.op != 12) = false := by rw [o12]; rfl
            have p13 : (t.op == 13) = false := by rw [o12]; rfl
            have r13 : (t.op != 13) = true := by rw [o12]; rfl
            have p14 : (t.op == 14) = false := by rw [o12]; rfl
            have r14 : (t.op != 14) = true := by rw [o12]; rfl
            have p9 : (t.op == 9) = false := by rw [o12]; rfl
            have r9 : (t.op != 9) = true := by rw [o12]; rfl
            have p15 : (t.op == 15) = false := by rw [o12]; rfl
            have r15 : (t.op != 15) = true := by rw [o12]; rfl
            have p7 : (t.op == 7) = false := by rw [o12]; rfl
            have r7 : (t.op != 7) = true := by rw [o12]; rfl
            clear o12
            have hk1 : (t.kids.length == 2) = false := by simp [hk]
            have hk2 : ((t.kids.length : Int) == 2) = false := by rw [beq_eq_false_iff_ne]; omega
            have Hhk := Lib.hid hk
            clear hk
            go_enter Tryz.func31, Tryz.ntmps31
            go_wp2_with fail
            go_quiet (fail)
            go_wp2_with fail
            go_ret
            first | exact ⟨ret_bool (hx.out.symm), E.out.trans (B7.out.mono E.out.size)⟩ | exact ⟨ret_bool (hx.out.symm), E.out.trans (B8.out.mono E.out.size)⟩ | exact ⟨ret_bool (hx.out.symm), E.out.trans (B9.out.mono E.out.size)⟩ | exact ⟨ret_bool (hx.out.symm), E.out⟩ | exact ⟨ret_bool (hx.out.symm), belowN E.out _⟩ | exact ⟨ret_bool (hx.out.symm), (belowN E.out _).drew⟩ | exact ⟨ret_bool (hx.out.symm), (Below.refl _ _).alloc (Nat.le_refl _) _⟩ | exact ⟨ret_bool (hx.out.symm), belowN ((Below.refl _ _).alloc (Nat.le_refl _) _) _⟩

set_option maxRecDepth 20000 in
theorem implExp_13 (t : GNode) (A1 : Option Addr) (c1 : Nat) (w : World) (o13 : t.op = 13)
    (HKK : ∀ x ∈ t.kids, ∀ (A2 : Option Addr) (c2 : Nat) (w2 : World), GNode.At w2 (Lt w2.heap.size) A2 c2 x → Calls Tryz.prog 31 #[.agg #[.int .i64 x.op, .int .i64 x.n, .string x.s, .string x.t, .slice A2 x.kids.length c2]] w2 fun e w' => e = .returned (.bool x.exp) ∧ Below w2.heap.size w2 w')
    (HK2 : ∀ y ∈ t.kids, ∀ (A2 : Option Addr) (c2 : Nat) (w2 : World), GNode.At w2 (Lt w2.heap.size) A2 c2 y → Calls Tryz.prog 57 #[.agg #[.int .i64 y.op, .int .i64 y.n, .string y.s, .string y.t, .slice A2 y.kids.length c2]] w2 fun e w' => e = .returned (.bool y.alt) ∧ Below w2.heap.size w2 w')
    (ht : GNode.At w (Lt w.heap.size) A1 c1 t) :
    Calls Tryz.prog 31 #[.agg #[.int .i64 t.op, .int .i64 t.n, .string t.s, .string t.t, .slice A1 t.kids.length c1]] w fun e w' => e = .returned (.bool t.exp) ∧ Below w.heap.size w w' := by
    obtain ⟨h0, h1, h2, h3, hs⟩ := id ht
    have hsz2 : t.s.size ≤ 9223372036854775807 := by unfold maxLen at h2; omega
    have hsz3 : t.t.size ≤ 9223372036854775807 := by unfold maxLen at h3; omega
    have hlen : t.kids.length ≤ 9223372036854775807 := by simpa using hs.len
    have hte := Lib.hid t.exp_eq
    obtain ⟨w0, e0⟩ : ∃ w0, w0 = w.alloc (.cells #[.int .i64 t.op, .int .i64 t.n, .string t.s, .string t.t, .slice A1 t.kids.length c1] 33) := ⟨_, rfl⟩
    have E := Lib.hid (show Below w.heap.size w w0 by rw [e0]; exact (Below.refl _ _).alloc (Nat.le_refl _) _)
    have R := Lib.hid (show Row w0 w.heap.size 33 #[.int .i64 t.op, .int .i64 t.n, .string t.s, .string t.t, .slice A1 t.kids.length c1] by rw [e0]; exact Row.new' _ _ _ rfl)
    have EQ := Lib.hid e0
    have HAN := Lib.hid (fun (wx : World) (hb : Below w0.heap.size w0 wx) => implAllNodes 31 (enters Tryz.func31 (by kernel_rfl) (by kernel_rfl)) #[] GNode.exp t.kids A1 c1 wx (hs.below (E.out.trans (hb.mono E.out.size)) (Nat.le_trans E.out.size hb.size)) (fun x hx A2 c2 w2 _ hx2 => HKK x hx A2 c2 w2 hx2))
    have HKH := Lib.hid HKK
    have HAL := Lib.hid HK2
    have HSS := Lib.hid hs
    have hc0 := fun i => R.out.cell i
    clear HKK HK2 e0 h0 h1 h2 h3 hs ht
    cases a : (t.n == 0)
    · skip
      have iv : inB 13 10 14 = true := by decide
      have hv := Lib.hid (show exp1 t.op t.n t.s t.t t.kids.length = false from by unfold exp1; simp [o13, a, iv])
      have hx := Lib.hid (show t.exp = false by rw [hte.out, hv.out]; rfl)
      clear iv
      have p1 : (t.op == 1) = false := by rw [o13]; rfl
      have r1 : (t.op != 1) = true := by rw [o13]; rfl
      have p2 : (t.op == 2) = false := by rw [o13]; rfl
      have r2 : (t.op != 2) = true := by rw [o13]; rfl
      have p3 : (t.op == 3) = false := by rw [o13]; rfl
      have r3 : (t.op != 3) = true := by rw [o13]; rfl
      have p16 : (t.op == 16) = false := by rw [o13]; rfl
      have r16 : (t.op != 16) = true := by rw [o13]; rfl
      have p5 : (t.op == 5) = false := by rw [o13]; rfl
      have r5 : (t.op != 5) = true := by rw [o13]; rfl
      have p6 : (t.op == 6) = false := by rw [o13]; rfl
      have r6 : (t.op != 6) = true := by rw [o13]; rfl
      have p4 : (t.op == 4) = false := by rw [o13]; rfl
      have r4 : (t.op != 4) = true := by rw [o13]; rfl
      have p10 : (t.op == 10) = false := by rw [o13]; rfl
      have r10 : (t.op != 10) = true := by rw [o13]; rfl
      have p11 : (t.op == 11) = false := by rw [o13]; rfl
      have r11 : (t.op != 11) = true := by rw [o13]; rfl
      have p12 : (t.op == 12) = false := by rw [o13]; rfl
      have r12 : (t.op != 12) = true := by rw [o13]; rfl
      have p13 : (t.op == 13) = true := by rw [o13]; rfl
      have r13 : (t.op != 13) = false := by rw [o13]; rfl
      have p14 : (t.op == 14) = false := by rw [o13]; rfl
      have r14 : (t.op != 14) = true := by rw [o13]; rfl
      have p9 : (t.op == 9) = false := by rw [o13]; rfl
      have r9 : (t.op != 9) = true := by rw [o13]; rfl
      have p15 : (t.op == 15) = false := by rw [o13]; rfl
      have r15 : (t.op != 15) = true := by rw [o13]; rfl
      have p7 : (t.op == 7) = false := by rw [o13]; rfl
      have r7 : (t.op != 7) = true := by rw [o13]; rfl
      clear o13
      go_enter Tryz.func31, Tryz.ntmps31
      go_wp2_with fail
      go_quiet (fail)
      go_wp2_with fail
      go_ret
      first | exact ⟨ret_bool (hx.out.symm), E.out.trans (B7.out.mono E.out.size)⟩ | exact ⟨ret_bool (hx.out.symm), E.out.trans (B8.out.mono E.out.size)⟩ | exact ⟨ret_bool (hx.out.symm), E.out.trans (B9.out.mono E.out.size)⟩ | exact ⟨ret_bool (hx.out.symm), E.out⟩ | exact ⟨ret_bool (hx.out.symm), belowN E.out _⟩ | exact ⟨ret_bool (hx.out.symm), (belowN E.out _).drew⟩ | exact ⟨ret_bool (hx.out.symm), (Below.refl _ _).alloc (Nat.le_refl _) _⟩ | exact ⟨ret_bool (hx.out.symm), belowN ((Below.refl _ _).alloc (Nat.le_refl _) _) _⟩
    · skip
      cases b : (t.s.toList.isEmpty)
      · skip
        have iv : inB 13 10 14 = true := by decide
        have hv := Lib.hid (show exp1 t.op t.n t.s t.t t.kids.length = false from by unfold exp1; simp [o13, a, b, iv])
        have hx := Lib.hid (show t.exp = false by rw [hte.out, hv.out]; rfl)
        clear iv
        have p1 : (t.op == 1) = false := by rw [o13]; rfl
        have r1 : (t.op != 1) = true := by rw [o13]; rfl
        have p2 : (t.op == 2) = false := by rw [o13]; rfl
        have r2 : (t.op != 2) = true := by rw [o13]; rfl
        have p3 : (t.op == 3) = false := by rw [o13]; rfl
        have r3 : (t.op != 3) = true := by rw [o13]; rfl
        have p16 : (t.op == 16) = false := by rw [o13]; rfl
        have r16 : (t.op != 16) = true := by rw [o13]; rfl
        have p5 : (t.op == 5) = false := by rw [o13]; rfl
        have r5 : (t.op != 5) = true := by rw [o13]; rfl
        have p6 : (t.op == 6) = false := by rw [o13]; rfl
        have r6 : (t.op != 6) = true := by rw [o13]; rfl
        have p4 : (t.op == 4) = false := by rw [o13]; rfl
        have r4 : (t.op != 4) = true := by rw [o13]; rfl
        have p10 : (t.op == 10) = false := by rw [o13]; rfl
        have r10 : (t.op != 10) = true := by rw [o13]; rfl
        have p11 : (t.op == 11) = false := by rw [o13]; rfl
        have r11 : (t.op != 11) = true := by rw [o13]; rfl
        have p12 : (t.op == 12) = false := by rw [o13]; rfl
        have r12 : (t.op != 12) = true := by rw [o13]; rfl
        have p13 : (t.op == 13) = true := by rw [o13]; rfl
        have r13 : (t.op != 13) = false := by rw [o13]; rfl
        have p14 : (t.op == 14) = false := by rw [o13]; rfl
        have r14 : (t.op != 14) = true := by rw [o13]; rfl
        have p9 : (t.op == 9) = false := by rw [o13]; rfl
        have r9 : (t.op != 9) = true := by rw [o13]; rfl
        have p15 : (t.op == 15) = false := by rw [o13]; rfl
        have r15 : (t.op != 15) = true := by rw [o13]; rfl
        have p7 : (t.op == 7) = false := by rw [o13]; rfl
        have r7 : (t.op != 7) = true := by rw [o13]; rfl
        clear o13
        go_enter Tryz.func31, Tryz.ntmps31
        go_wp2_with fail
        go_quiet (fail)
        go_wp2_with fail
        go_ret
        first | exact ⟨ret_bool (hx.out.symm), E.out.trans (B7.out.mono E.out.size)⟩ | exact ⟨ret_bool (hx.out.symm), E.out.trans (B8.out.mono E.out.size)⟩ | exact ⟨ret_bool (hx.out.symm), E.out.trans (B9.out.mono E.out.size)⟩ | exact ⟨ret_bool (hx.out.symm), E.out⟩ | exact ⟨ret_bool (hx.out.symm), belowN E.out _⟩ | exact ⟨ret_bool (hx.out.symm), (belowN E.out _).drew⟩ | exact ⟨ret_bool (hx.out.symm), (Below.refl _ _).alloc (Nat.le_refl _) _⟩ | exact ⟨ret_bool (hx.out.symm), belowN ((Below.refl _ _).alloc (Nat.le_refl _) _) _⟩
      · skip
        cases te : (t.t.toList.isEmpty)
        · skip
          have iv : inB 13 10 14 = true := by decide
          have hv := Lib.hid (show exp1 t.op t.n t.s t.t t.kids.length = false from by unfold exp1; simp [o13, a, b, te, iv])
          have hx := Lib.hid (show t.exp = false by rw [hte.out, hv.out]; rfl)
          clear iv
          have p1 : (t.op == 1) = false := by rw [o13]; rfl
          have r1 : (t.op != 1) = true := by rw [o13]; rfl
          have p2 : (t.op == 2) = false := by rw [o13]; rfl
          have r2 : (t.op != 2) = true := by rw [o13]; rfl
          have p3 : (t.op == 3) = false := by rw [o13]; rfl
          have r3 : (t.op != 3) = true := by rw [o13]; rfl
          have p16 : (t.op == 16) = false := by rw [o13]; rfl
          have r16 : (t.op != 16) = true := by rw [o13]; rfl
          have p5 : (t.op == 5) = false := by rw [o13]; rfl
          have r5 : (t.op != 5) = true := by rw [o13]; rfl
          have p6 : (t.op == 6) = false := by rw [o13]; rfl
          have r6 : (t.op != 6) = true := by rw [o13]; rfl
          have p4 : (t.op == 4) = false := by rw [o13]; rfl
          have r4 : (t.op != 4) = true := by rw [o13]; rfl
          have p10 : (t.op == 10) = false := by rw [o13]; rfl
          have r10 : (t.op != 10) = true := by rw [o13]; rfl
          have p11 : (t.op == 11) = false := by rw [o13]; rfl
          have r11 : (t.op != 11) = true := by rw [o13]; rfl
          have p12 : (t.op == 12) = false := by rw [o13]; rfl
          have r12 : (t.op != 12) = true := by rw [o13]; rfl
          have p13 : (t.op == 13) = true := by rw [o13]; rfl
          have r13 : (t.op != 13) = false := by rw [o13]; rfl
          have p14 : (t.op == 14) = false := by rw [o13]; rfl
          have r14 : (t.op != 14) = true := by rw [o13]; rfl
          have p9 : (t.op == 9) = false := by rw [o13]; rfl
          have r9 : (t.op != 9) = true := by rw [o13]; rfl
          have p15 : (t.op == 15) = false := by rw [o13]; rfl
          have r15 : (t.op != 15) = true := by rw [o13]; rfl
          have p7 : (t.op == 7) = false := by rw [o13]; rfl
          have r7 : (t.op != 7) = true := by rw [o13]; rfl
          clear o13
          go_enter Tryz.func31, Tryz.ntmps31
          go_wp2_with fail
          go_quiet (fail)
          go_wp2_with fail
          go_ret
          first | exact ⟨ret_bool (hx.out.symm), E.out.trans (B7.out.mono E.out.size)⟩ | exact ⟨ret_bool (hx.out.symm), E.out.trans (B8.out.mono E.out.size)⟩ | exact ⟨ret_bool (hx.out.symm), E.out.trans (B9.out.mono E.out.size)⟩ | exact ⟨ret_bool (hx.out.symm), E.out⟩ | exact ⟨ret_bool (hx.out.symm), belowN E.out _⟩ | exact ⟨ret_bool (hx.out.symm), (belowN E.out _).drew⟩ | exact ⟨ret_bool (hx.out.symm), (Below.refl _ _).alloc (Nat.le_refl _) _⟩ | exact ⟨ret_bool (hx.out.symm), belowN ((Below.refl _ _).alloc (Nat.le_refl _) _) _⟩
        · skip
          by_cases hk : t.kids.length = 2
          · skip
            have iv : inB 13 10 14 = true := by decide
            have hv := Lib.hid (show exp1 t.op t.n t.s t.t t.kids.length = true from by unfold exp1; simp [o13, a, b, te, hk, iv])
            have hx := Lib.hid (show t.exp = t.kids.all GNode.exp by rw [hte.out, hv.out, if_neg (by omega), GNode.expL_all]; rfl)
            clear iv
            have p1 : (t.op == 1) = false := by rw [o13]; rfl
            have r1 : (t.op != 1) = true := by rw [o13]; rfl
            have p2 : (t.op == 2) = false := by rw [o13]; rfl
            have r2 : (t.op != 2) = true := by rw [o13]; rfl
            have p3 : (t.op == 3) = false := by rw [o13]; rfl
            have r3 : (t.op != 3) = true := by rw [o13]; rfl
            have p16 : (t.op == 16) = false := by rw [o13]; rfl
            have r16 : (t.op != 16) = true := by rw [o13]; rfl
            have p5 : (t.op == 5) = false := by rw [o13]; rfl
            have r5 : (t.op != 5) = true := by rw [o13]; rfl
            have p6 : (t.op == 6) = false := by rw [o13]; rfl
            have r6 : (t.op != 6) = true := by rw [o13]; rfl
            have p4 : (t.op == 4) = false := by rw [o13]; rfl
            have r4 : (t.op != 4) = true := by rw [o13]; rfl
            have p10 : (t.op == 10) = false := by rw [o13]; rfl
            have r10 : (t.op != 10) = true := by rw [o13]; rfl
            have p11 : (t.op == 11) = false := by rw [o13]; rfl
            have r11 : (t.op != 11) = true := by rw [o13]; rfl
            have p12 : (t.op == 12) = false := by rw [o13]; rfl
            have r12 : (t.op != 12) = true := by rw [o13]; rfl
            have p13 : (t.op == 13) = true := by rw [o13]; rfl
            have r13 : (t.op != 13) = false := by rw [o13]; rfl
            have p14 : (t.op == 14) = false := by rw [o13]; rfl
            have r14 : (t.op != 14) = true := by rw [o13]; rfl
            have p9 : (t.op == 9) = false := by rw [o13]; rfl
            have r9 : (t.op != 9) = true := by rw [o13]; rfl
            have p15 : (t.op == 15) = false := by rw [o13]; rfl
            have r15 : (t.op != 15) = true := by rw [o13]; rfl
            have p7 : (t.op == 7) = false := by rw [o13]; rfl
            have r7 : (t.op != 7) = true := by rw [o13]; rfl
            clear o13
            have hk1 : (t.kids.length == 2) = true := by simp [hk]
            have hk2 : ((t.kids.length : Int) == 2) = true := by rw [beq_iff_eq]; omega
            have Hhk := Lib.hid hk
            clear hk
            go_enter Tryz.func31, Tryz.ntmps31
            go_wp2_with fail
            go_quiet (fail)
            go_wp2_with (first | (go_at_call 36; (try rw [← EQ.out]); refine (HAN.out _ (by first | exact B8.out | exact B9.out | exact Below.refl _ _ | exact belowN (Below.refl _ _) _ | exact (belowN (Below.refl _ _) _).drew)).mono ?_; rintro e w7 ⟨rfl, hb7⟩; have B7 : Hid (Below w0.heap.size w0 w7) := (by first | exact Lib.hid (B8.out.trans (hb7.mono B8.out.size)) | exact Lib.hid (B9.out.trans (hb7.mono B9.out.size)) | exact Lib.hid hb7 | exact Lib.hid ((belowN (Below.refl w0.heap.size w0) _).trans hb7) | exact Lib.hid (((belowN (Below.refl w0.heap.size w0) _).drew).trans hb7)); clear hb7))
            go_ret
            first | exact ⟨ret_bool (hx.out.symm), E.out.trans (B7.out.mono E.out.size)⟩ | exact ⟨ret_bool (hx.out.symm), E.out.trans (B8.out.mono E.out.size)⟩ | exact ⟨ret_bool (hx.out.symm), E.out.trans (B9.out.mono E.out.size)⟩ | exact ⟨ret_bool (hx.out.symm), E.out⟩ | exact ⟨ret_bool (hx.out.symm), belowN E.out _⟩ | exact ⟨ret_bool (hx.out.symm), (belowN E.out _).drew⟩ | exact ⟨ret_bool (hx.out.symm), (Below.refl _ _).alloc (Nat.le_refl _) _⟩ | exact ⟨ret_bool (hx.out.symm), belowN ((Below.refl _ _).alloc (Nat.le_refl _) _) _⟩
          · skip
            have iv : inB 13 10 14 = true := by decide
            have hv := Lib.hid (show exp1 t.op t.n t.s t.t t.kids.length = false from by unfold exp1; simp [o13, a, b, te, hk, iv])
            have hx := Lib.hid (show t.exp = false by rw [hte.out, hv.out]; rfl)
            clear iv
            have p1 : (t.op == 1) = false := by rw [o13]; rfl
            have r1 : (t.op != 1) = true := by rw [o13]; rfl
            have p2 : (t.op == 2) = false := by rw [o13]; rfl
            have r2 : (t.op != 2) = true := by rw [o13]; rfl
            have p3 : (t.op == 3) = false := by rw [o13]; rfl
            have r3 : (t.op != 3) = true := by rw [o13]; rfl
            have p16 : (t.op == 16) = false := by rw [o13]; rfl
            have r16 : (t.op != 16) = true := by rw [o13]; rfl
            have p5 : (t.op == 5) = false := by rw [o13]; rfl
            have r5 : (t.op != 5) = true := by rw [o13]; rfl
            have p6 : (t.op == 6) = false := by rw [o13]; rfl
            have r6 : (t.op != 6) = true := by rw [o13]; rfl
            have p4 : (t.op == 4) = false := by rw [o13]; rfl
            have r4 : (t.op != 4) = true := by rw [o13]; rfl
            have p10 : (t.op == 10) = false := by rw [o13]; rfl
            have r10 : (t.op != 10) = true := by rw [o13]; rfl
            have p11 : (t.op == 11) = false := by rw [o13]; rfl
            have r11 : (t.op != 11) = true := by rw [o13]; rfl
            have p12 : (t.op == 12) = false := by rw [o13]; rfl
            have r12 : (t.op != 12) = true := by rw [o13]; rfl
            have p13 : (t.op == 13) = true := by rw [o13]; rfl
            have r13 : (t.op != 13) = false := by rw [o13]; rfl
            have p14 : (t.op == 14) = false := by rw [o13]; rfl
            have r14 : (t.op != 14) = true := by rw [o13]; rfl
            have p9 : (t.op == 9) = false := by rw [o13]; rfl
            have r9 : (t.op != 9) = true := by rw [o13]; rfl
            have p15 : (t.op == 15) = false := by rw [o13]; rfl
            have r15 : (t.op != 15) = true := by rw [o13]; rfl
            have p7 : (t.op == 7) = false := by rw [o13]; rfl
            have r7 : (t.op != 7) = true := by rw [o13]; rfl
            clear o13
            have hk1 : (t.kids.length == 2) = false := by simp [hk]
            have hk2 : ((t.kids.length : Int) == 2) = false := by rw [beq_eq_false_iff_ne]; omega
            have Hhk := Lib.hid hk
            clear hk
            go_enter Tryz.func31, Tryz.ntmps31
            go_wp2_with fail
            go_quiet (fail)
            go_wp2_with fail
            go_ret
            first | exact ⟨ret_bool (hx.out.symm), E.out.trans (B7.out.mono E.out.size)⟩ | exact ⟨ret_bool (hx.out.symm), E.out.trans (B8.out.mono E.out.size)⟩ | exact ⟨ret_bool (hx.out.symm), E.out.trans (B9.out.mono E.out.size)⟩ | exact ⟨ret_bool (hx.out.symm), E.out⟩ | exact ⟨ret_bool (hx.out.symm), belowN E.out _⟩ | exact ⟨ret_bool (hx.out.symm), (belowN E.out _).drew⟩ | exact ⟨ret_bool (hx.out.symm), (Below.refl _ _).alloc (Nat.le_refl _) _⟩ | exact ⟨ret_bool (hx.out.symm), belowN ((Below.refl _ _).alloc (Nat.le_refl _) _) _⟩

set_option maxRecDepth 20000 in
theorem implExp_14 (t : GNode) (A1 : Option Addr) (c1 : Nat) (w : World) (o14 : t.op = 14)
    (HKK : ∀ x ∈ t.kids, ∀ (A2 : Option Addr) (c2 : Nat) (w2 : World), GNode.At w2 (Lt w2.heap.size) A2 c2 x → Calls Tryz.prog 31 #[.agg #[.int .i64 x.op, .int .i64 x.n, .string x.s, .string x.t, .slice A2 x.kids.length c2]] w2 fun e w' => e = .returned (.bool x.exp) ∧ Below w2.heap.size w2 w')
    (HK2 : ∀ y ∈ t.kids, ∀ (A2 : Option Addr) (c2 : Nat) (w2 : World), GNode.At w2 (Lt w2.heap.size) A2 c2 y → Calls Tryz.prog 57 #[.agg #[.int .i64 y.op, .int .i64 y.n, .string y.s, .string y.t, .slice A2 y.kids.length c2]] w2 fun e w' => e = .returned (.bool y.alt) ∧ Below w2.heap.size w2 w')
    (ht : GNode.At w (Lt w.heap.size) A1 c1 t) :
    Calls Tryz.prog 31 #[.agg #[.int .i64 t.op, .int .i64 t.n, .string t.s, .string t.t, .slice A1 t.kids.length c1]] w fun e w' => e = .returned (.bool t.exp) ∧ Below w.heap.size w w' := by
    obtain ⟨h0, h1, h2, h3, hs⟩ := id ht
    have hsz2 : t.s.size ≤ 9223372036854775807 := by unfold maxLen at h2; omega
    have hsz3 : t.t.size ≤ 9223372036854775807 := by unfold maxLen at h3; omega
    have hlen : t.kids.length ≤ 9223372036854775807 := by simpa using hs.len
    have hte := Lib.hid t.exp_eq
    obtain ⟨w0, e0⟩ : ∃ w0, w0 = w.alloc (.cells #[.int .i64 t.op, .int .i64 t.n, .string t.s, .string t.t, .slice A1 t.kids.length c1] 33) := ⟨_, rfl⟩
    have E := Lib.hid (show Below w.heap.size w w0 by rw [e0]; exact (Below.refl _ _).alloc (Nat.le_refl _) _)
    have R := Lib.hid (show Row w0 w.heap.size 33 #[.int .i64 t.op, .int .i64 t.n, .string t.s, .string t.t, .slice A1 t.kids.length c1] by rw [e0]; exact Row.new' _ _ _ rfl)
    have EQ := Lib.hid e0
    have HAN := Lib.hid (fun (wx : World) (hb : Below w0.heap.size w0 wx) => implAllNodes 31 (enters Tryz.func31 (by kernel_rfl) (by kernel_rfl)) #[] GNode.exp t.kids A1 c1 wx (hs.below (E.out.trans (hb.mono E.out.size)) (Nat.le_trans E.out.size hb.size)) (fun x hx A2 c2 w2 _ hx2 => HKK x hx A2 c2 w2 hx2))
    have HKH := Lib.hid HKK
    have HAL := Lib.hid HK2
    have HSS := Lib.hid hs
    have hc0 := fun i => R.out.cell i
    clear HKK HK2 e0 h0 h1 h2 h3 hs ht
    cases a : (t.n == 0)
    · skip
      have iv : inB 14 10 14 = true := by decide
      have hv := Lib.hid (show exp1 t.op t.n t.s t.t t.kids.length = false from by unfold exp1; simp [o14, a, iv])
      have hx := Lib.hid (show t.exp = false by rw [hte.out, hv.out]; rfl)
      clear iv
      have p1 : (t.op == 1) = false := by rw [o14]; rfl
      have r1 : (t.op != 1) = true := by rw [o14]; rfl
      have p2 : (t.op == 2) = false := by rw [o14]; rfl
      have r2 : (t.op != 2) = true := by rw [o14]; rfl
      have p3 : (t.op == 3) = false := by rw [o14]; rfl
      have r3 : (t.op != 3) = true := by rw [o14]; rfl
      have p16 : (t.op == 16) = false := by rw [o14]; rfl
      have r16 : (t.op != 16) = true := by rw [o14]; rfl
      have p5 : (t.op == 5) = false := by rw [o14]; rfl
      have r5 : (t.op != 5) = true := by rw [o14]; rfl
      have p6 : (t.op == 6) = false := by rw [o14]; rfl
      have r6 : (t.op != 6) = true := by rw [o14]; rfl
      have p4 : (t.op == 4) = false := by rw [o14]; rfl
      have r4 : (t.op != 4) = true := by rw [o14]; rfl
      have p10 : (t.op == 10) = false := by rw [o14]; rfl
      have r10 : (t.op != 10) = true := by rw [o14]; rfl
      have p11 : (t.op == 11) = false := by rw [o14]; rfl
      have r11 : (t.op != 11) = true := by rw [o14]; rfl
      have p12 : (t.op == 12) = false := by rw [o14]; rfl
      have r12 : (t.op != 12) = true := by rw [o14]; rfl
      have p13 : (t.op == 13) = false := by rw [o14]; rfl
      have r13 : (t.op != 13) = true := by rw [o14]; rfl
      have p14 : (t.op == 14) = true := by rw [o14]; rfl
      have r14 : (t.op != 14) = false := by rw [o14]; rfl
      have p9 : (t.op == 9) = false := by rw [o14]; rfl
      have r9 : (t.op != 9) = true := by rw [o14]; rfl
      have p15 : (t.op == 15) = false := by rw [o14]; rfl
      have r15 : (t.op != 15) = true := by rw [o14]; rfl
      have p7 : (t.op == 7) = false := by rw [o14]; rfl
      have r7 : (t.op != 7) = true := by rw [o14]; rfl
      clear o14
      go_enter Tryz.func31, Tryz.ntmps31
      go_wp2_with fail
      go_quiet (fail)
      go_wp2_with fail
      go_ret
      first | exact ⟨ret_bool (hx.out.symm), E.out.trans (B7.out.mono E.out.size)⟩ | exact ⟨ret_bool (hx.out.symm), E.out.trans (B8.out.mono E.out.size)⟩ | exact ⟨ret_bool (hx.out.symm), E.out.trans (B9.out.mono E.out.size)⟩ | exact ⟨ret_bool (hx.out.symm), E.out⟩ | exact ⟨ret_bool (hx.out.symm), belowN E.out _⟩ | exact ⟨ret_bool (hx.out.symm), (belowN E.out _).drew⟩ | exact ⟨ret_bool (hx.out.symm), (Below.refl _ _).alloc (Nat.le_refl _) _⟩ | exact ⟨ret_bool (hx.out.symm), belowN ((Below.refl _ _).alloc (Nat.le_refl _) _) _⟩
    · skip
      cases b : (t.s.toList.isEmpty)
      · skip
        have iv : inB 14 10 14 = true := by decide
        have hv := Lib.hid (show exp1 t.op t.n t.s t.t t.kids.length = false from by unfold exp1; simp [o14, a, b, iv])
        have hx := Lib.hid (show t.exp = false by rw [hte.out, hv.out]; rfl)
        clear iv
        have p1 : (t.op == 1) = false := by rw [o14]; rfl
        have r1 : (t.op != 1) = true := by rw [o14]; rfl
        have p2 : (t.op == 2) = false := by rw [o14]; rfl
        have r2 : (t.op != 2) = true := by rw [o14]; rfl
        have p3 : (t.op == 3) = false := by rw [o14]; rfl
        have r3 : (t.op != 3) = true := by rw [o14]; rfl
        have p16 : (t.op == 16) = false := by rw [o14]; rfl
        have r16 : (t.op != 16) = true := by rw [o14]; rfl
        have p5 : (t.op == 5) = false := by rw [o14]; rfl
        have r5 : (t.op != 5) = true := by rw [o14]; rfl
        have p6 : (t.op == 6) = false := by rw [o14]; rfl
        have r6 : (t.op != 6) = true := by rw [o14]; rfl
        have p4 : (t.op == 4) = false := by rw [o14]; rfl
        have r4 : (t.op != 4) = true := by rw [o14]; rfl
        have p10 : (t.op == 10) = false := by rw [o14]; rfl
        have r10 : (t.op != 10) = true := by rw [o14]; rfl
        have p11 : (t.op == 11) = false := by rw [o14]; rfl
        have r11 : (t.op != 11) = true := by rw [o14]; rfl
        have p12 : (t.op == 12) = false := by rw [o14]; rfl
        have r12 : (t.op != 12) = true := by rw [o14]; rfl
        have p13 : (t.op == 13) = false := by rw [o14]; rfl
        have r13 : (t.op != 13) = true := by rw [o14]; rfl
        have p14 : (t.op == 14) = true := by rw [o14]; rfl
        have r14 : (t.op != 14) = false := by rw [o14]; rfl
        have p9 : (t.op == 9) = false := by rw [o14]; rfl
        have r9 : (t.op != 9) = true := by rw [o14]; rfl
        have p15 : (t.op == 15) = false := by rw [o14]; rfl
        have r15 : (t.op != 15) = true := by rw [o14]; rfl
        have p7 : (t.op == 7) = false := by rw [o14]; rfl
        have r7 : (t.op != 7) = true := by rw [o14]; rfl
        clear o14
        go_enter Tryz.func31, Tryz.ntmps31
        go_wp2_with fail
        go_quiet (fail)
        go_wp2_with fail
        go_ret
        first | exact ⟨ret_bool (hx.out.symm), E.out.trans (B7.out.mono E.out.size)⟩ | exact ⟨ret_bool (hx.out.symm), E.out.trans (B8.out.mono E.out.size)⟩ | exact ⟨ret_bool (hx.out.symm), E.out.trans (B9.out.mono E.out.size)⟩ | exact ⟨ret_bool (hx.out.symm), E.out⟩ | exact ⟨ret_bool (hx.out.symm), belowN E.out _⟩ | exact ⟨ret_bool (hx.out.symm), (belowN E.out _).drew⟩ | exact ⟨ret_bool (hx.out.symm), (Below.refl _ _).alloc (Nat.le_refl _) _⟩ | exact ⟨ret_bool (hx.out.symm), belowN ((Below.refl _ _).alloc (Nat.le_refl _) _) _⟩
      · skip
        cases te : (t.t.toList.isEmpty)
        · skip
          have iv : inB 14 10 14 = true := by decide
          have hv := Lib.hid (show exp1 t.op t.n t.s t.t t.kids.length = false from by unfold exp1; simp [o14, a, b, te, iv])
          have hx := Lib.hid (show t.exp = false by rw [hte.out, hv.out]; rfl)
          clear iv
          have p1 : (t.op == 1) = false := by rw [o14]; rfl
          have r1 : (t.op != 1) = true := by rw [o14]; rfl
          have p2 : (t.op == 2) = false := by rw [o14]; rfl
          have r2 : (t.op != 2) = true := by rw [o14]; rfl
          have p3 : (t.op == 3) = false := by rw [o14]; rfl
          have r3 : (t.op != 3) = true := by rw [o14]; rfl
          have p16 : (t.op == 16) = false := by rw [o14]; rfl
          have r16 : (t.op != 16) = true := by rw [o14]; rfl
          have p5 : (t.op == 5) = false := by rw [o14]; rfl
          have r5 : (t.op != 5) = true := by rw [o14]; rfl
          have p6 : (t.op == 6) = false := by rw [o14]; rfl
          have r6 : (t.op != 6) = true := by rw [o14]; rfl
          have p4 : (t.op == 4) = false := by rw [o14]; rfl
          have r4 : (t.op != 4) = true := by rw [o14]; rfl
          have p10 : (t.op == 10) = false := by rw [o14]; rfl
          have r10 : (t.op != 10) = true := by rw [o14]; rfl
          have p11 : (t.op == 11) = false := by rw [o14]; rfl
          have r11 : (t.op != 11) = true := by rw [o14]; rfl
          have p12 : (t.op == 12) = false := by rw [o14]; rfl
          have r12 : (t.op != 12) = true := by rw [o14]; rfl
          have p13 : (t.op == 13) = false := by rw [o14]; rfl
          have r13 : (t.op != 13) = true := by rw [o14]; rfl
          have p14 : (t.op == 14) = true := by rw [o14]; rfl
          have r14 : (t.op != 14) = false := by rw [o14]; rfl
          have p9 : (t.op == 9) = false := by rw [o14]; rfl
          have r9 : (t.op != 9) = true := by rw [o14]; rfl
          have p15 : (t.op == 15) = false := by rw [o14]; rfl
          have r15 : (t.op != 15) = true := by rw [o14]; rfl
          have p7 : (t.op == 7) = false := by rw [o14]; rfl
          have r7 : (t.op != 7) = true := by rw [o14]; rfl
          clear o14
          go_enter Tryz.func31, Tryz.ntmps31
          go_wp2_with fail
          go_quiet (fail)
          go_wp2_with fail
          go_ret
          first | exact ⟨ret_bool (hx.out.symm), E.out.trans (B7.out.mono E.out.size)⟩ | exact ⟨ret_bool (hx.out.symm), E.out.trans (B8.out.mono E.out.size)⟩ | exact ⟨ret_bool (hx.out.symm), E.out.trans (B9.out.mono E.out.size)⟩ | exact ⟨ret_bool (hx.out.symm), E.out⟩ | exact ⟨ret_bool (hx.out.symm), belowN E.out _⟩ | exact ⟨ret_bool (hx.out.symm), (belowN E.out _).drew⟩ | exact ⟨ret_bool (hx.out.symm), (Below.refl _ _).alloc (Nat.le_refl _) _⟩ | exact ⟨ret_bool (hx.out.symm), belowN ((Below.refl _ _).alloc (Nat.le_refl _) _) _⟩
        · skip
          by_cases hk : t.kids.length = 2
          · skip
            have iv : inB 14 10 14 = true := by decide
            have hv := Lib.hid (show exp1 t.op t.n t.s t.t t.kids.length = true from by unfold exp1; simp [o14, a, b, te, hk, iv])
            have hx := Lib.hid (show t.exp = t.kids.all GNode.exp by rw [hte.out, hv.out, if_neg (by omega), GNode.expL_all]; rfl)
            clear iv
            have p1 : (t.op == 1) = false := by rw [o14]; rfl
            have r1 : (t.op != 1) = true := by rw [o14]; rfl
            have p2 : (t.op == 2) = false := by rw [o14]; rfl
            have r2 : (t.op != 2) = true := by rw [o14]; rfl
            have p3 : (t.op == 3) = false := by rw [o14]; rfl
            have r3 : (t.op != 3) = true := by rw [o14]; rfl
            have p16 : (t.op == 16) = false := by rw [o14]; rfl
            have r16 : (t.op != 16) = true := by rw [o14]; rfl
            have p5 : (t.op == 5) = false := by rw [o14]; rfl
            have r5 : (t.op != 5) = true := by rw [o14]; rfl
            have p6 : (t.op == 6) = false := by rw [o14]; rfl
            have r6 : (t.op != 6) = true := by rw [o14]; rfl
            have p4 : (t.op == 4) = false := by rw [o14]; rfl
            have r4 : (t.op != 4) = true := by rw [o14]; rfl
            have p10 : (t.op == 10) = false := by rw [o14]; rfl
            have r10 : (t.op != 10) = true := by rw [o14]; rfl
            have p11 : (t.op == 11) = false := by rw [o14]; rfl
            have r11 : (t.op != 11) = true := by rw [o14]; rfl
            have p12 : (t.op == 12) = false := by rw [o14]; rfl
            have r12 : (t.op != 12) = true := by rw [o14]; rfl
            have p13 : (t.op == 13) = false := by rw [o14]; rfl
            have r13 : (t.op != 13) = true := by rw [o14]; rfl
            have p14 : (t.op == 14) = true := by rw [o14]; rfl
            have r14 : (t.op != 14) = false := by rw [o14]; rfl
            have p9 : (t.op == 9) = false := by rw [o14]; rfl
            have r9 : (t.op != 9) = true := by rw [o14]; rfl
            have p15 : (t.op == 15) = false := by rw [o14]; rfl
            have r15 : (t.op != 15) = true := by rw [o14]; rfl
            have p7 : (t.op == 7) = false := by rw [o14]; rfl
            have r7 : (t.op != 7) = true := by rw [o14]; rfl
            clear o14
            have hk1 : (t.kids.length == 2) = true := by simp [hk]
            have hk2 : ((t.kids.length : Int) == 2) = true := by rw [beq_iff_eq]; omega
            have Hhk := Lib.hid hk
            clear hk
            go_enter Tryz.func31, Tryz.ntmps31
            go_wp2_with fail
            go_quiet (fail)
            go_wp2_with (first | (go_at_call 36; (try rw [← EQ.out]); refine (HAN.out _ (by first | exact B8.out | exact B9.out | exact Below.refl _ _ | exact belowN (Below.refl _ _) _ | exact (belowN (Below.refl _ _) _).drew)).mono ?_; rintro e w7 ⟨rfl, hb7⟩; have B7 : Hid (Below w0.heap.size w0 w7) := (by first | exact Lib.hid (B8.out.trans (hb7.mono B8.out.size)) | exact Lib.hid (B9.out.trans (hb7.mono B9.out.size)) | exact Lib.hid hb7 | exact Lib.hid ((belowN (Below.refl w0.heap.size w0) _).trans hb7) | exact Lib.hid (((belowN (Below.refl w0.heap.size w0) _).drew).trans hb7)); clear hb7))
            go_ret
            first | exact ⟨ret_bool (hx.out.symm), E.out.trans (B7.out.mono E.out.size)⟩ | exact ⟨ret_bool (hx.out.symm), E.out.trans (B8.out.mono E.out.size)⟩ | exact ⟨ret_bool (hx.out.symm), E.out.trans (B9.out.mono E.out.size)⟩ | exact ⟨ret_bool (hx.out.symm), E.out⟩ | exact ⟨ret_bool (hx.out.symm), belowN E.out _⟩ | exact ⟨ret_bool (hx.out.symm), (belowN E.out _).drew⟩ | exact ⟨ret_bool (hx.out.symm), (Below.refl _ _).alloc (Nat.le_refl _) _⟩ | exact ⟨ret_bool (hx.out.symm), belowN ((Below.refl _ _).alloc (Nat.le_refl _) _) _⟩
          · skip
            have iv : inB 14 10 14 = true := by decide
            have hv := Lib.hid (show exp1 t.op t.n t.s t.t t.kids.length = false from by unfold exp1; simp [o14, a, b, te, hk, iv])
            have hx := Lib.hid (show t.exp = false by rw [hte.out, hv.out]; rfl)
            clear iv
            have p1 : (t.op == 1) = false := by rw [o14]; rfl
            have r1 : (t.op != 1) = true := by rw [o14]; rfl
            have p2 : (t.op == 2) = false := by rw [o14]; rfl
            have r2 : (t.op != 2) = true := by rw [o14]; rfl
            have p3 : (t.op == 3) = false := by rw [o14]; rfl
            have r3 : (t.op != 3) = true := by rw [o14]; rfl
            have p16 : (t.op == 16) = false := by rw [o14]; rfl
            have r16 : (t.op != 16) = true := by rw [o14]; rfl
            have p5 : (t.op == 5) = false := by rw [o14]; rfl
            have r5 : (t.op != 5) = true := by rw [o14]; rfl
            have p6 : (t.op == 6) = false := by rw [o14]; rfl
            have r6 : (t.op != 6) = true := by rw [o14]; rfl
            have p4 : (t.op == 4) = false := by rw [o14]; rfl
            have r4 : (t.op != 4) = true := by rw [o14]; rfl
            have p10 : (t.op == 10) = false := by rw [o14]; rfl
            have r10 : (t.op != 10) = true := by rw [o14]; rfl
            have p11 : (t.op == 11) = false := by rw [o14]; rfl
            have r11 : (t.op != 11) = true := by rw [o14]; rfl
            have p12 : (t.op == 12) = false := by rw [o14]; rfl
            have r12 : (t.op != 12) = true := by rw [o14]; rfl
            have p13 : (t.op == 13) = false := by rw [o14]; rfl
            have r13 : (t.op != 13) = true := by rw [o14]; rfl
            have p14 : (t.op == 14) = true := by rw [o14]; rfl
            have r14 : (t.op != 14) = false := by rw [o14]; rfl
            have p9 : (t.op == 9) = false := by rw [o14]; rfl
            have r9 : (t.op != 9) = true := by rw [o14]; rfl
            have p15 : (t.op == 15) = false := by rw [o14]; rfl
            have r15 : (t.op != 15) = true := by rw [o14]; rfl
            have p7 : (t.op == 7) = false := by rw [o14]; rfl
            have r7 : (t.op != 7) = true := by rw [o14]; rfl
            clear o14
            have hk1 : (t.kids.length == 2) = false := by simp [hk]
            have hk2 : ((t.kids.length : Int) == 2) = false := by rw [beq_eq_false_iff_ne]; omega
            have Hhk := Lib.hid hk
            clear hk
            go_enter Tryz.func31, Tryz.ntmps31
            go_wp2_with fail
            go_quiet (fail)
            go_wp2_with fail
            go_ret
            first | exact ⟨ret_bool (hx.out.symm), E.out.trans (B7.out.mono E.out.size)⟩ | exact ⟨ret_bool (hx.out.symm), E.out.trans (B8.out.mono E.out.size)⟩ | exact ⟨ret_bool (hx.out.symm), E.out.trans (B9.out.mono E.out.size)⟩ | exact ⟨ret_bool (hx.out.symm), E.out⟩ | exact ⟨ret_bool (hx.out.symm), belowN E.out _⟩ | exact ⟨ret_bool (hx.out.symm), (belowN E.out _).drew⟩ | exact ⟨ret_bool (hx.out.symm), (Below.refl _ _).alloc (Nat.le_refl _) _⟩ | exact ⟨ret_bool (hx.out.symm), belowN ((Below.refl _ _).alloc (Nat.le_refl _) _) _⟩

set_option maxRecDepth 20000 in
theorem implExp_9 (t : GNode) (A1 : Option Addr) (c1 : Nat) (w : World) (o9 : t.op = 9)
    (HKK : ∀ x ∈ t.kids, ∀ (A2 : Option Addr) (c2 : Nat) (w2 : World), GNode.At w2 (Lt w2.heap.size) A2 c2 x → Calls Tryz.prog 31 #[.agg #[.int .i64 x.op, .int .i64 x.n, .string x.s, .string x.t, .slice A2 x.kids.length c2]] w2 fun e w' => e = .returned (.bool x.exp) ∧ Below w2.heap.size w2 w')
    (HK2 : ∀ y ∈ t.kids, ∀ (A2 : Option Addr) (c2 : Nat) (w2 : World), GNode.At w2 (Lt w2.heap.size) A2 c2 y → Calls Tryz.prog 57 #[.agg #[.int .i64 y.op, .int .i64 y.n, .string y.s, .string y.t, .slice A2 y.kids.length c2]] w2 fun e w' => e = .returned (.bool y.alt) ∧ Below w2.heap.size w2 w')
    (ht : GNode.At w (Lt w.heap.size) A1 c1 t) :
    Calls Tryz.prog 31 #[.agg #[.int .i64 t.op, .int .i64 t.n, .string t.s, .string t.t, .slice A1 t.kids.length c1]] w fun e w' => e = .returned (.bool t.exp) ∧ Below w.heap.size w w' := by
    obtain ⟨h0, h1, h2, h3, hs⟩ := id ht
    have hsz2 : t.s.size ≤ 9223372036854775807 := by unfold maxLen at h2; omega
    have hsz3 : t.t.size ≤ 9223372036854775807 := by unfold maxLen at h3; omega
    have hlen : t.kids.length ≤ 9223372036854775807 := by simpa using hs.len
    have hte := Lib.hid t.exp_eq
    obtain ⟨w0, e0⟩ : ∃ w0, w0 = w.alloc (.cells #[.int .i64 t.op, .int .i64 t.n, .string t.s, .string t.t, .slice A1 t.kids.length c1] 33) := ⟨_, rfl⟩
    have E := Lib.hid (show Below w.heap.size w w0 by rw [e0]; exact (Below.refl _ _).alloc (Nat.le_refl _) _)
    have R := Lib.hid (show Row w0 w.heap.size 33 #[.int .i64 t.op, .int .i64 t.n, .string t.s, .string t.t, .slice A1 t.kids.length c1] by rw [e0]; exact Row.new' _ _ _ rfl)
    have EQ := Lib.hid e0
    have HAN := Lib.hid (fun (wx : World) (hb : Below w0.heap.size w0 wx) => implAllNodes 31 (enters Tryz.func31 (by kernel_rfl) (by kernel_rfl)) #[] GNode.exp t.kids A1 c1 wx (hs.below (E.out.trans (hb.mono E.out.size)) (Nat.le_trans E.out.size hb.size)) (fun x hx A2 c2 w2 _ hx2 => HKK x hx A2 c2 w2 hx2))
    have HKH := Lib.hid HKK
    have HAL := Lib.hid HK2
    have HSS := Lib.hid hs
    have hc0 := fun i => R.out.cell i
    clear HKK HK2 e0 h0 h1 h2 h3 hs ht
    cases a : (t.n == 0)
    · skip
      have hv := Lib.hid (show exp1 t.op t.n t.s t.t t.kids.length = false from by unfold exp1; simp [o9, a])
      have hx := Lib.hid (show t.exp = false by rw [hte.out, hv.out]; rfl)
      have p1 : (t.op == 1) = false := by rw [o9]; rfl
      have r1 : (t.op != 1) = true := by rw [o9]; rfl
      have p2 : (t.op == 2) = false := by rw [o9]; rfl
      have r2 : (t.op != 2) = true := by rw [o9]; rfl
      have p3 : (t.op == 3) = false := by rw [o9]; rfl
      have r3 : (t.op != 3) = true := by rw [o9]; rfl
      have p16 : (t.op == 16) = false := by rw [o9]; rfl
      have r16 : (t.op != 16) = true := by rw [o9]; rfl
      have p5 : (t.op == 5) = false := by rw [o9]; rfl
      have r5 : (t.op != 5) = true := by rw [o9]; rfl
      have p6 : (t.op == 6) = false := by rw [o9]; rfl
      have r6 : (t.op != 6) = true := by rw [o9]; rfl
      have p4 : (t.op == 4) = false := by rw [o9]; rfl
      have r4 : (t.op != 4) = true := by rw [o9]; rfl
      have p10 : (t.op == 10) = false := by rw [o9]; rfl
      have r10 : (t.op != 10) = true := by rw [o9]; rfl
      have p11 : (t.op == 11) = false := by rw [o9]; rfl
      have r11 : (t.op != 11) = true := by rw [o9]; rfl
      have p12 : (t.op == 12) = false := by rw [o9]; rfl
      have r12 : (t.op != 12) = true := by rw [o9]; rfl
      have p13 : (t.op == 13) = false := by rw [o9]; rfl
      have r13 : (t.op != 13) = true := by rw [o9]; rfl
      have p14 : (t.op == 14) = false := by rw [o9]; rfl
      have r14 : (t.op != 14) = true := by rw [o9]; rfl
      have p9 : (t.op == 9) = true := by rw [o9]; rfl
      have r9 : (t.op != 9) = false := by rw [o9]; rfl
      have p15 : (t.op == 15) = false := by rw [o9]; rfl
      have r15 : (t.op != 15) = true := by rw [o9]; rfl
      have p7 : (t.op == 7) = false := by rw [o9]; rfl
      have r7 : (t.op != 7) = true := by rw [o9]; rfl
      clear o9
      go_enter Tryz.func31, Tryz.ntmps31
      go_wp2_with fail
      go_quiet (fail)
      go_wp2_with fail
      go_ret
      first | exact ⟨ret_bool (hx.out.symm), E.out.trans (B7.out.mono E.out.size)⟩ | exact ⟨ret_bool (hx.out.symm), E.out.trans (B8.out.mono E.out.size)⟩ | exact ⟨ret_bool (hx.out.symm), E.out.trans (B9.out.mono E.out.size)⟩ | exact ⟨ret_bool (hx.out.symm), E.out⟩ | exact ⟨ret_bool (hx.out.symm), belowN E.out _⟩ | exact ⟨ret_bool (hx.out.symm), (belowN E.out _).drew⟩ | exact ⟨ret_bool (hx.out.symm), (Below.refl _ _).alloc (Nat.le_refl _) _⟩ | exact ⟨ret_bool (hx.out.symm), belowN ((Below.refl _ _).alloc (Nat.le_refl _) _) _⟩
    · skip
      cases b : (t.s.toList.isEmpty)
      · skip
        have hv := Lib.hid (show exp1 t.op t.n t.s t.t t.kids.length = false from by unfold exp1; simp [o9, a, b])
        have hx := Lib.hid (show t.exp = false by rw [hte.out, hv.out]; rfl)
        have p1 : (t.op == 1) = false := by rw [o9]; rfl
        have r1 : (t.op != 1) = true := by rw [o9]; rfl
        have p2 : (t.op == 2) = false := by rw [o9]; rfl
        have r2 : (t.op != 2) = true := by rw [o9]; rfl
        have p3 : (t.op == 3) = false := by rw [o9]; rfl
        have r3 : (t.op != 3) = true := by rw [o9]; rfl
        have p16 : (t.op == 16) = false := by rw [o9]; rfl
        have r16 : (t.op != 16) = true := by rw [o9]; rfl
        have p5 : (t.op == 5) = false := by rw [o9]; rfl
        have r5 : (t.op != 5) = true := by rw [o9]; rfl
        have p6 : (t.op == 6) = false := by rw [o9]; rfl
        have r6 : (t.op != 6) = true := by rw [o9]; rfl
        have p4 : (t.op == 4) = false := by rw [o9]; rfl
        have r4 : (t.op != 4) = true := by rw [o9]; rfl
        have p10 : (t.op == 10) = false := by rw [o9]; rfl
        have r10 : (t.op != 10) = true := by rw [o9]; rfl
        have p11 : (t.op == 11) = false := by rw [o9]; rfl
        have r11 : (t.op != 11) = true := by rw [o9]; rfl
        have p12 : (t.op == 12) = false := by rw [o9]; rfl
        have r12 : (t.op != 12) = true := by rw [o9]; rfl
        have p13 : (t.op == 13) = false := by rw [o9]; rfl
        have r13 : (t.op != 13) = true := by rw [o9]; rfl
        have p14 : (t.op == 14) = false := by rw [o9]; rfl
        have r14 : (t.op != 14) = true := by rw [o9]; rfl
        have p9 : (t.op == 9) = true := by rw [o9]; rfl
        have r9 : (t.op != 9) = false := by rw [o9]; rfl
        have p15 : (t.op == 15) = false := by rw [o9]; rfl
        have r15 : (t.op != 15) = true := by rw [o9]; rfl
        have p7 : (t.op == 7) = false := by rw [o9]; rfl
        have r7 : (t.op != 7) = true := by rw [o9]; rfl
        clear o9
        go_enter Tryz.func31, Tryz.ntmps31
        go_wp2_with fail
        go_quiet (fail)
        go_wp2_with fail
        go_ret
        first | exact ⟨ret_bool (hx.out.symm), E.out.trans (B7.out.mono E.out.size)⟩ | exact ⟨ret_bool (hx.out.symm), E.out.trans (B8.out.mono E.out.size)⟩ | exact ⟨ret_bool (hx.out.symm), E.out.trans (B9.out.mono E.out.size)⟩ | exact ⟨ret_bool (hx.out.symm), E.out⟩ | exact ⟨ret_bool (hx.out.symm), belowN E.out _⟩ | exact ⟨ret_bool (hx.out.symm), (belowN E.out _).drew⟩ | exact ⟨ret_bool (hx.out.symm), (Below.refl _ _).alloc (Nat.le_refl _) _⟩ | exact ⟨ret_bool (hx.out.symm), belowN ((Below.refl _ _).alloc (Nat.le_refl _) _) _⟩
      · skip
        cases te : (t.t.toList.isEmpty)
        · skip
          have hv := Lib.hid (show exp1 t.op t.n t.s t.t t.kids.length = false from by unfold exp1; simp [o9, a, b, te])
          have hx := Lib.hid (show t.exp = false by rw [hte.out, hv.out]; rfl)
          have p1 : (t.op == 1) = false := by rw [o9]; rfl
          have r1 : (t.op != 1) = true := by rw [o9]; rfl
          have p2 : (t.op == 2) = false := by rw [o9]; rfl
          have r2 : (t.op != 2) = true := by rw [o9]; rfl
          have p3 : (t.op == 3) = false := by rw [o9]; rfl
          have r3 : (t.op != 3) = true := by rw [o9]; rfl
          have p16 : (t.op == 16) = false := by rw [o9]; rfl
          have r16 : (t.op != 16) = true := by rw [o9]; rfl
          have p5 : (t.op == 5) = false := by rw [o9]; rfl
          have r5 : (t.op != 5) = true := by rw [o9]; rfl
          have p6 : (t.op == 6) = false := by rw [o9]; rfl
          have r6 : (t.op != 6) = true := by rw [o9]; rfl
          have p4 : (t.op == 4) = false := by rw [o9]; rfl
          have r4 : (t.op != 4) = true := by rw [o9]; rfl
          have p10 : (t.op == 10) = false := by rw [o9]; rfl
          have r10 : (t.op != 10) = true := by rw [o9]; rfl
          have p11 : (t.op == 11) = false := by rw [o9]; rfl
          have r11 : (t.op != 11) = true := by rw [o9]; rfl
          have p12 : (t.op == 12) = false := by rw [o9]; rfl
          have r12 : (t.op != 12) = true := by rw [o9]; rfl
          have p13 : (t.op == 13) = false := by rw [o9]; rfl
          have r13 : (t.op != 13) = true := by rw [o9]; rfl
          have p14 : (t.op == 14) = false := by rw [o9]; rfl
          have r14 : (t.op != 14) = true := by rw [o9]; rfl
          have p9 : (t.op == 9) = true := by rw [o9]; rfl
          have r9 : (t.op != 9) = false := by rw [o9]; rfl
          have p15 : (t.op == 15) = false := by rw [o9]; rfl
          have r15 : (t.op != 15) = true := by rw [o9]; rfl
          have p7 : (t.op == 7) = false := by rw [o9]; rfl
          have r7 : (t.op != 7) = true := by rw [o9]; rfl
          clear o9
          go_enter Tryz.func31, Tryz.ntmps31
          go_wp2_with fail
          go_quiet (fail)
          go_wp2_with fail
          go_ret
          first | exact ⟨ret_bool (hx.out.symm), E.out.trans (B7.out.mono E.out.size)⟩ | exact ⟨ret_bool (hx.out.symm), E.out.trans (B8.out.mono E.out.size)⟩ | exact ⟨ret_bool (hx.out.symm), E.out.trans (B9.out.mono E.out.size)⟩ | exact ⟨ret_bool (hx.out.symm), E.out⟩ | exact ⟨ret_bool (hx.out.symm), belowN E.out _⟩ | exact ⟨ret_bool (hx.out.symm), (belowN E.out _).drew⟩ | exact ⟨ret_bool (hx.out.symm), (Below.refl _ _).alloc (Nat.le_refl _) _⟩ | exact ⟨ret_bool (hx.out.symm), belowN ((Below.refl _ _).alloc (Nat.le_refl _) _) _⟩
        · skip
          by_cases hk : t.kids.length = 3
          · skip
            have hv := Lib.hid (show exp1 t.op t.n t.s t.t t.kids.length = true from by unfold exp1; simp [o9, a, b, te, hk])
            have hx := Lib.hid (show t.exp = t.kids.all GNode.exp by rw [hte.out, hv.out, if_neg (by omega), GNode.expL_all]; rfl)
            have p1 : (t.op == 1) = false := by rw [o9]; rfl
            have r1 : (t.op != 1) = true := by rw [o9]; rfl
            have p2 : (t.op == 2) = false := by rw [o9]; rfl
            have r2 : (t.op != 2) = true := by rw [o9]; rfl
            have p3 : (t.op == 3) = false := by rw [o9]; rfl
            have r3 : (t.op != 3) = true := by rw [o9]; rfl
            have p16 : (t.op == 16) = false := by rw [o9]; rfl
            have r16 : (t.op != 16) = true := by rw [o9]; rfl
            have p5 : (t.op == 5) = false := by rw [o9]; rfl
            have r5 : (t.op != 5) = true := by rw [o9]; rfl
            have p6 : (t.op == 6) = false := by rw [o9]; rfl
            have r6 : (t.op != 6) = true := by rw [o9]; rfl
            have p4 : (t.op == 4) = false := by rw [o9]; rfl
            have r4 : (t.op != 4) = true := by rw [o9]; rfl
            have p10 : (t.op == 10) = false := by rw [o9]; rfl
            have r10 : (t.op != 10) = true := by rw [o9]; rfl
            have p11 : (t.op == 11) = false := by rw [o9]; rfl
            have r11 : (t.op != 11) = true := by rw [o9]; rfl
            have p12 : (t.op == 12) = false := by rw [o9]; rfl
            have r12 : (t.op != 12) = true := by rw [o9]; rfl
            have p13 : (t.op == 13) = false := by rw [o9]; rfl
            have r13 : (t.op != 13) = true := by rw [o9]; rfl
            have p14 : (t.op == 14) = false := by rw [o9]; rfl
            have r14 : (t.op != 14) = true := by rw [o9]; rfl
            have p9 : (t.op == 9) = true := by rw [o9]; rfl
            have r9 : (t.op != 9) = false := by rw [o9]; rfl
            have p15 : (t.op == 15) = false := by rw [o9]; rfl
            have r15 : (t.op != 15) = true := by rw [o9]; rfl
            have p7 : (t.op == 7) = false := by rw [o9]; rfl
            have r7 : (t.op != 7) = true := by rw [o9]; rfl
            clear o9
            have hk1 : (t.kids.length == 3) = true := by simp [hk]
            have hk2 : ((t.kids.length : Int) == 3) = true := by rw [beq_iff_eq]; omega
            have Hhk := Lib.hid hk
            clear hk
            go_enter Tryz.func31, Tryz.ntmps31
            go_wp2_with fail
            go_quiet (fail)
            go_wp2_with (first | (go_at_call 36; (try rw [← EQ.out]); refine (HAN.out _ (by first | exact B8.out | exact B9.out | exact Below.refl _ _ | exact belowN (Below.refl _ _) _ | exact (belowN (Below.refl _ _) _).drew)).mono ?_; rintro e w7 ⟨rfl, hb7⟩; have B7 : Hid (Below w0.heap.size w0 w7) := (by first | exact Lib.hid (B8.out.trans (hb7.mono B8.out.size)) | exact Lib.hid (B9.out.trans (hb7.mono B9.out.size)) | exact Lib.hid hb7 | exact Lib.hid ((belowN (Below.refl w0.heap.size w0) _).trans hb7) | exact Lib.hid (((belowN (Below.refl w0.heap.size w0) _).drew).trans hb7)); clear hb7))
            go_ret
            first | exact ⟨ret_bool (hx.out.symm), E.out.trans (B7.out.mono E.out.size)⟩ | exact ⟨ret_bool (hx.out.symm), E.out.trans (B8.out.mono E.out.size)⟩ | exact ⟨ret_bool (hx.out.symm), E.out.trans (B9.out.mono E.out.size)⟩ | exact ⟨ret_bool (hx.out.symm), E.out⟩ | exact ⟨ret_bool (hx.out.symm), belowN E.out _⟩ | exact ⟨ret_bool (hx.out.symm), (belowN E.out _).drew⟩ | exact ⟨ret_bool (hx.out.symm), (Below.refl _ _).alloc (Nat.le_refl _) _⟩ | exact ⟨ret_bool (hx.out.symm), belowN ((Below.refl _ _).alloc (Nat.le_refl _) _) _⟩
          · skip
            have hv := Lib.hid (show exp1 t.op t.n t.s t.t t.kids.length = false from by unfold exp1; simp [o9, a, b, te, hk])
            have hx := Lib.hid (show t.exp = false by rw [hte.out, hv.out]; rfl)
            have p1 : (t.op == 1) = false := by rw [o9]; rfl
            have r1 : (t.op != 1) = true := by rw [o9]; rfl
            have p2 : (t.op == 2) = false := by rw [o9]; rfl
            have r2 : (t.op != 2) = true := by rw [o9]; rfl
            have p3 : (t.op == 3) = false := by rw [o9]; rfl
            have r3 : (t.op != 3) = true := by rw [o9]; rfl
            have p16 : (t.op == 16) = false := by rw [o9]; rfl
            have r16 : (t.op != 16) = true := by rw [o9]; rfl
            have p5 : (t.op == 5) = false := by rw [o9]; rfl
            have r5 : (t.op != 5) = true := by rw [o9]; rfl
            have p6 : (t.op == 6) = false := by rw [o9]; rfl
            have r6 : (t.op != 6) = true := by rw [o9]; rfl
            have p4 : (t.op == 4) = false := by rw [o9]; rfl
            have r4 : (t.op != 4) = true := by rw [o9]; rfl
            have p10 : (t.op == 10) = false := by rw [o9]; rfl
            have r10 : (t.op != 10) = true := by rw [o9]; rfl
            have p11 : (t.op == 11) = false := by rw [o9]; rfl
            have r11 : (t.op != 11) = true := by rw [o9]; rfl
            have p12 : (t.op == 12) = false := by rw [o9]; rfl
            have r12 : (t.op != 12) = true := by rw [o9]; rfl
            have p13 : (t.op == 13) = false := by rw [o9]; rfl
            have r13 : (t.op != 13) = true := by rw [o9]; rfl
            have p14 : (t.op == 14) = false := by rw [o9]; rfl
            have r14 : (t.op != 14) = true := by rw [o9]; rfl
            have p9 : (t.op == 9) = true := by rw [o9]; rfl
            have r9 : (t.op != 9) = false := by rw [o9]; rfl
            have p15 : (t.op == 15) = false := by rw [o9]; rfl
            have r15 : (t.op != 15) = true := by rw [o9]; rfl
            have p7 : (t.op == 7) = false := by rw [o9]; rfl
            have r7 : (t.op != 7) = true := by rw [o9]; rfl
            clear o9
            have hk1 : (t.kids.length == 3) = false := by simp [hk]
            have hk2 : ((t.kids.length : Int) == 3) = false := by rw [beq_eq_false_iff_ne]; omega
            have Hhk := Lib.hid hk
            clear hk
            go_enter Tryz.func31, Tryz.ntmps31
            go_wp2_with fail
            go_quiet (fail)
            go_wp2_with fail
            go_ret
            first | exact ⟨ret_bool (hx.out.symm), E.out.trans (B7.out.mono E.out.size)⟩ | exact ⟨ret_bool (hx.out.symm), E.out.trans (B8.out.mono E.out.size)⟩ | exact ⟨ret_bool (hx.out.symm), E.out.trans (B9.out.mono E.out.size)⟩ | exact ⟨ret_bool (hx.out.symm), E.out⟩ | exact ⟨ret_bool (hx.out.symm), belowN E.out _⟩ | exact ⟨ret_bool (hx.out.symm), (belowN E.out _).drew⟩ | exact ⟨ret_bool (hx.out.symm), (Below.refl _ _).alloc (Nat.le_refl _) _⟩ | exact ⟨ret_bool (hx.out.symm), belowN ((Below.refl _ _).alloc (Nat.le_refl _) _) _⟩

end Go.Proofs.YtgbcdfeflgnogaaGreat

/- Expressions that are tidy, in the program (5). Conditions: none. -/
namespace Go.Proofs.YtgbcdfeflgnogaaGreat
open Go.RowKit
set_option linter.unusedVariables false
set_option linter.unusedSimpArgs false
set_option maxHeartbeats 40000000

set_option maxRecDepth 20000 in
theorem implExp_15 (t : GNode) (A1 : Option Addr) (c1 : Nat) (w : World) (o15 : t.op = 15)
    (HKK : ∀ x ∈ t.kids, ∀ (A2 : Option Addr) (c2 : Nat) (w2 : World), GNode.At w2 (Lt w2.heap.size) A2 c2 x → Calls Tryz.prog 31 #[.agg #[.int .i64 x.op, .int .i64 x.n, .string x.s, .string x.t, .slice A2 x.kids.length c2]] w2 fun e w' => e = .returned (.bool x.exp) ∧ Below w2.heap.size w2 w')
    (HK2 : ∀ y ∈ t.kids, ∀ (A2 : Option Addr) (c2 : Nat) (w2 : World), GNode.At w2 (Lt w2.heap.size) A2 c2 y → Calls Tryz.prog 57 #[.agg #[.int .i64 y.op, .int .i64 y.n, .string y.s, .string y.t, .slice A2 y.kids.length c2]] w2 fun e w' => e = .returned (.bool y.alt) ∧ Below w2.heap.size w2 w')
    (ht : GNode.At w (Lt w.heap.size) A1 c1 t) :
    Calls Tryz.prog 31 #[.agg #[.int .i64 t.op, .int .i64 t.n, .string t.s, .string t.t, .slice A1 t.kids.length c1]] w fun e w' => e = .returned (.bool t.exp) ∧ Below w.heap.size w w' := by
    obtain ⟨h0, h1, h2, h3, hs⟩ := id ht
    have hsz2 : t.s.size ≤ 9223372036854775807 := by unfold maxLen at h2; omega
    have hsz3 : t.t.size ≤ 9223372036854775807 := by unfold maxLen at h3; omega
    have hlen : t.kids.length ≤ 9223372036854775807 := by simpa using hs.len
    have hte := Lib.hid t.exp_eq
    obtain ⟨w0, e0⟩ : ∃ w0, w0 = w.alloc (.cells #[.int .i64 t.op, .int .i64 t.n, .string t.s, .string t.t, .slice A1 t.kids.length c1] 33) := ⟨_, rfl⟩
    have E := Lib.hid (show Below w.heap.size w w0 by rw [e0]; exact (Below.refl _ _).alloc (Nat.le_refl _) _)
    have R := Lib.hid (show Row w0 w.heap.size 33 #[.int .i64 t.op, .int .i64 t.n, .string t.s, .string t.t, .slice A1 t.kids.length c1] by rw [e0]; exact Row.new' _ _ _ rfl)
    have EQ := Lib.hid e0
    have HAN := Lib.hid (fun (wx : World) (hb : Below w0.heap.size w0 wx) => implAllNodes 31 (enters Tryz.func31 (by kernel_rfl) (by kernel_rfl)) #[] GNode.exp t.kids A1 c1 wx (hs.below (E.out.trans (hb.mono E.out.size)) (Nat.le_trans E.out.size hb.size)) (fun x hx A2 c2 w2 _ hx2 => HKK x hx A2 c2 w2 hx2))
    have HKH := Lib.hid HKK
    have HAL := Lib.hid HK2
    have HSS := Lib.hid hs
    have hc0 := fun i => R.out.cell i
    clear HKK HK2 e0 h0 h1 h2 h3 hs ht
    cases cn : (conB t.s)
    · skip
      cases a : (t.n == 0)
      · skip
        have hv := Lib.hid (show exp1 t.op t.n t.s t.t t.kids.length = false from by unfold exp1; simp [o15, cn, a])
        have hx := Lib.hid (show t.exp = false by rw [hte.out, hv.out]; rfl)
        have p1 : (t.op == 1) = false := by rw [o15]; rfl
        have r1 : (t.op != 1) = true := by rw [o15]; rfl
        have p2 : (t.op == 2) = false := by rw [o15]; rfl
        have r2 : (t.op != 2) = true := by rw [o15]; rfl
        have p3 : (t.op == 3) = false := by rw [o15]; rfl
        have r3 : (t.op != 3) = true := by rw [o15]; rfl
        have p16 : (t.op == 16) = false := by rw [o15]; rfl
        have r16 : (t.op != 16) = true := by rw [o15]; rfl
        have p5 : (t.op == 5) = false := by rw [o15]; rfl
        have r5 : (t.op != 5) = true := by rw [o15]; rfl
        have p6 : (t.op == 6) = false := by rw [o15]; rfl
        have r6 : (t.op != 6) = true := by rw [o15]; rfl
        have p4 : (t.op == 4) = false := by rw [o15]; rfl
        have r4 : (t.op != 4) = true := by rw [o15]; rfl
        have p10 : (t.op == 10) = false := by rw [o15]; rfl
        have r10 : (t.op != 10) = true := by rw [o15]; rfl
        have p11 : (t.op == 11) = false := by rw [o15]; rfl
        have r11 : (t.op != 11) = true := by rw [o15]; rfl
        have p12 : (t.op == 12) = false := by rw [o15]; rfl
        have r12 : (t.op != 12) = true := by rw [o15]; rfl
        have p13 : (t.op == 13) = false := by rw [o15]; rfl
        have r13 : (t.op != 13) = true := by rw [o15]; rfl
        have p14 : (t.op == 14) = false := by rw [o15]; rfl
        have r14 : (t.op != 14) = true := by rw [o15]; rfl
        have p9 : (t.op == 9) = false := by rw [o15]; rfl
        have r9 : (t.op != 9) = true := by rw [o15]; rfl
        have p15 : (t.op == 15) = true := by rw [o15]; rfl
        have r15 : (t.op != 15) = false := by rw [o15]; rfl
        have p7 : (t.op == 7) = false := by rw [o15]; rfl
        have r7 : (t.op != 7) = true := by rw [o15]; rfl
        clear o15
        have HCN := Lib.hid (fun (wx : World) => implConOk t.s wx hsz2)
        rw [cn] at HCN
        clear cn
        go_enter Tryz.func31, Tryz.ntmps31
        go_wp2_with fail
        go_quiet (fail)
        go_wp2_with fail
        rw [← EQ.out]
        go_region_held3 (fun w' => ∀ i, w'.cell? ⟨w.heap.size, i, none⟩ = (#[.int .i64 t.op, .int .i64 t.n, .string t.s, .string t.t, .slice A1 t.kids.length c1] : Array Value)[i]?) (first | exact hc9 | exact hc8 | exact fun i => R.out.cell i) (first | (go_at_call 56; (try rw [← EQ.out]); refine (HCN.out _).mono ?_; rintro e w6 ⟨rfl, rfl⟩))
        all_goals
          go_wp2_with fail
          go_ret
          first | exact ⟨ret_bool (hx.out.symm), E.out.trans (B7.out.mono E.out.size)⟩ | exact ⟨ret_bool (hx.out.symm), E.out.trans (B8.out.mono E.out.size)⟩ | exact ⟨ret_bool (hx.out.symm), E.out.trans (B9.out.mono E.out.size)⟩ | exact ⟨ret_bool (hx.out.symm), E.out⟩ | exact ⟨ret_bool (hx.out.symm), belowN E.out _⟩ | exact ⟨ret_bool (hx.out.symm), (belowN E.out _).drew⟩ | exact ⟨ret_bool (hx.out.symm), (Below.refl _ _).alloc (Nat.le_refl _) _⟩ | exact ⟨ret_bool (hx.out.symm), belowN ((Below.refl _ _).alloc (Nat.le_refl _) _) _⟩
      · skip
        have hv := Lib.hid (show exp1 t.op t.n t.s t.t t.kids.length = false from by unfold exp1; simp [o15, cn, a])
        have hx := Lib.hid (show t.exp = false by rw [hte.out, hv.out]; rfl)
        have p1 : (t.op == 1) = false := by rw [o15]; rfl
        have r1 : (t.op != 1) = true := by rw [o15]; rfl
        have p2 : (t.op == 2) = false := by rw [o15]; rfl
        have r2 : (t.op != 2) = true := by rw [o15]; rfl
        have p3 : (t.op == 3) = false := by rw [o15]; rfl
        have r3 : (t.op != 3) = true := by rw [o15]; rfl
        have p16 : (t.op == 16) = false := by rw [o15]; rfl
        have r16 : (t.op != 16) = true := by rw [o15]; rfl
        have p5 : (t.op == 5) = false := by rw [o15]; rfl
        have r5 : (t.op != 5) = true := by rw [o15]; rfl
        have p6 : (t.op == 6) = false := by rw [o15]; rfl
        have r6 : (t.op != 6) = true := by rw [o15]; rfl
        have p4 : (t.op == 4) = false := by rw [o15]; rfl
        have r4 : (t.op != 4) = true := by rw [o15]; rfl
        have p10 : (t.op == 10) = false := by rw [o15]; rfl
        have r10 : (t.op != 10) = true := by rw [o15]; rfl
        have p11 : (t.op == 11) = false := by rw [o15]; rfl
        have r11 : (t.op != 11) = true := by rw [o15]; rfl
        have p12 : (t.op == 12) = false := by rw [o15]; rfl
        have r12 : (t.op != 12) = true := by rw [o15]; rfl
        have p13 : (t.op == 13) = false := by rw [o15]; rfl
        have r13 : (t.op != 13) = true := by rw [o15]; rfl
        have p14 : (t.op == 14) = false := by rw [o15]; rfl
        have r14 : (t.op != 14) = true := by rw [o15]; rfl
        have p9 : (t.op == 9) = false := by rw [o15]; rfl
        have r9 : (t.op != 9) = true := by rw [o15]; rfl
        have p15 : (t.op == 15) = true := by rw [o15]; rfl
        have r15 : (t.op != 15) = false := by rw [o15]; rfl
        have p7 : (t.op == 7) = false := by rw [o15]; rfl
        have r7 : (t.op != 7) = true := by rw [o15]; rfl
        clear o15
        have HCN := Lib.hid (fun (wx : World) => implConOk t.s wx hsz2)
        rw [cn] at HCN
        clear cn
        go_enter Tryz.func31, Tryz.ntmps31
        go_wp2_with fail
        go_quiet (fail)
        go_wp2_with fail
        rw [← EQ.out]
        go_region_held3 (fun w' => ∀ i, w'.cell? ⟨w.heap.size, i, none⟩ = (#[.int .i64 t.op, .int .i64 t.n, .string t.s, .string t.t, .slice A1 t.kids.length c1] : Array Value)[i]?) (first | exact hc9 | exact hc8 | exact fun i => R.out.cell i) (first | (go_at_call 56; (try rw [← EQ.out]); refine (HCN.out _).mono ?_; rintro e w6 ⟨rfl, rfl⟩))
        all_goals
          go_wp2_with fail
          go_ret
          first | exact ⟨ret_bool (hx.out.symm), E.out.trans (B7.out.mono E.out.size)⟩ | exact ⟨ret_bool (hx.out.symm), E.out.trans (B8.out.mono E.out.size)⟩ | exact ⟨ret_bool (hx.out.symm), E.out.trans (B9.out.mono E.out.size)⟩ | exact ⟨ret_bool (hx.out.symm), E.out⟩ | exact ⟨ret_bool (hx.out.symm), belowN E.out _⟩ | exact ⟨ret_bool (hx.out.symm), (belowN E.out _).drew⟩ | exact ⟨ret_bool (hx.out.symm), (Below.refl _ _).alloc (Nat.le_refl _) _⟩ | exact ⟨ret_bool (hx.out.symm), belowN ((Below.refl _ _).alloc (Nat.le_refl _) _) _⟩
    · skip
      cases a : (t.n == 0)
      · skip
        have hv := Lib.hid (show exp1 t.op t.n t.s t.t t.kids.length = false from by unfold exp1; simp [o15, cn, a])
        have hx := Lib.hid (show t.exp = false by rw [hte.out, hv.out]; rfl)
        have p1 : (t.op == 1) = false := by rw [o15]; rfl
        have r1 : (t.op != 1) = true := by rw [o15]; rfl
        have p2 : (t.op == 2) = false := by rw [o15]; rfl
        have r2 : (t.op != 2) = true := by rw [o15]; rfl
        have p3 : (t.op == 3) = false := by rw [o15]; rfl
        have r3 : (t.op != 3) = true := by rw [o15]; rfl
        have p16 : (t.op == 16) = false := by rw [o15]; rfl
        have r16 : (t.op != 16) = true := by rw [o15]; rfl
        have p5 : (t.op == 5) = false := by rw [o15]; rfl
        have r5 : (t.op != 5) = true := by rw [o15]; rfl
        have p6 : (t.op == 6) = false := by rw [o15]; rfl
        have r6 : (t.op != 6) = true := by rw [o15]; rfl
        have p4 : (t.op == 4) = false := by rw [o15]; rfl
        have r4 : (t.op != 4) = true := by rw [o15]; rfl
        have p10 : (t.op == 10) = false := by rw [o15]; rfl
        have r10 : (t.op != 10) = true := by rw [o15]; rfl
        have p11 : (t.op == 11) = false := by rw [o15]; rfl
        have r11 : (t.op != 11) = true := by rw [o15]; rfl
        have p12 : (t.op == 12) = false := by rw [o15]; rfl
        have r12 : (t.op != 12) = true := by rw [o15]; rfl
        have p13 : (t.op == 13) = false := by rw [o15]; rfl
        have r13 : (t.op != 13) = true := by rw [o15]; rfl
        have p14 : (t.op == 14) = false := by rw [o15]; rfl
        have r14 : (t.op != 14) = true := by rw [o15]; rfl
        have p9 : (t.op == 9) = false := by rw [o15]; rfl
        have r9 : (t.op != 9) = true := by rw [o15]; rfl
        have p15 : (t.op == 15) = true := by rw [o15]; rfl
        have r15 : (t.op != 15) = false := by rw [o15]; rfl
        have p7 : (t.op == 7) = false := by rw [o15]; rfl
        have r7 : (t.op != 7) = true := by rw [o15]; rfl
        clear o15
        have HCN := Lib.hid (fun (wx : World) => implConOk t.s wx hsz2)
        rw [cn] at HCN
        clear cn
        go_enter Tryz.func31, Tryz.ntmps31
        go_wp2_with fail
        go_quiet (fail)
        go_wp2_with fail
        rw [← EQ.out]
        go_region_held3 (fun w' => ∀ i, w'.cell? ⟨w.heap.size, i, none⟩ = (#[.int .i64 t.op, .int .i64 t.n, .string t.s, .string t.t, .slice A1 t.kids.length c1] : Array Value)[i]?) (first | exact hc9 | exact hc8 | exact fun i => R.out.cell i) (first | (go_at_call 56; (try rw [← EQ.out]); refine (HCN.out _).mono ?_; rintro e w6 ⟨rfl, rfl⟩))
        all_goals
          go_wp2_with fail
          go_ret
          first | exact ⟨ret_bool (hx.out.symm), E.out.trans (B7.out.mono E.out.size)⟩ | exact ⟨ret_bool (hx.out.symm), E.out.trans (B8.out.mono E.out.size)⟩ | exact ⟨ret_bool (hx.out.symm), E.out.trans (B9.out.mono E.out.size)⟩ | exact ⟨ret_bool (hx.out.symm), E.out⟩ | exact ⟨ret_bool (hx.out.symm), belowN E.out _⟩ | exact ⟨ret_bool (hx.out.symm), (belowN E.out _).drew⟩ | exact ⟨ret_bool (hx.out.symm), (Below.refl _ _).alloc (Nat.le_refl _) _⟩ | exact ⟨ret_bool (hx.out.symm), belowN ((Below.refl _ _).alloc (Nat.le_refl _) _) _⟩
      · skip
        cases te : (t.t.toList.isEmpty)
        · skip
          have hv := Lib.hid (show exp1 t.op t.n t.s t.t t.kids.length = false from by unfold exp1; simp [o15, cn, a, te])
          have hx := Lib.hid (show t.exp = false by rw [hte.out, hv.out]; rfl)
          have p1 : (t.op == 1) = false := by rw [o15]; rfl
          have r1 : (t.op != 1) = true := by rw [o15]; rfl
          have p2 : (t.op == 2) = false := by rw [o15]; rfl
          have r2 : (t.op != 2) = true := by rw [o15]; rfl
          have p3 : (t.op == 3) = false := by rw [o15]; rfl
          have r3 : (t.op != 3) = true := by rw [o15]; rfl
          have p16 : (t.op == 16) = false := by rw [o15]; rfl
          have r16 : (t.op != 16) = true := by rw [o15]; rfl
          have p5 : (t.op == 5) = false := by rw [o15]; rfl
          have r5 : (t.op != 5) = true := by rw [o15]; rfl
          have p6 : (t.op == 6) = false := by rw [o15]; rfl
          have r6 : (t.op != 6) = true := by rw [o15]; rfl
          have p4 : (t.op == 4) = false := by rw [o15]; rfl
          have r4 : (t.op != 4) = true := by rw [o15]; rfl
          have p10 : (t.op == 10) = false := by rw [o15]; rfl
          have r10 : (t.op != 10) = true := by rw [o15]; rfl
          have p11 : (t.op == 11) = false := by rw [o15]; rfl
          have r11 : (t.op != 11) = true := by rw [o15]; rfl
          have p12 : (t.op == 12) = false := by rw [o15]; rfl
          have r12 : (t.op != 12) = true := by rw [o15]; rfl
          have p13 : (t.op == 13) = false := by rw [o15]; rfl
          have r13 : (t.op != 13) = true := by rw [o15]; rfl
          have p14 : (t.op == 14) = false := by rw [o15]; rfl
          have r14 : (t.op != 14) = true := by rw [o15]; rfl
          have p9 : (t.op == 9) = false := by rw [o15]; rfl
          have r9 : (t.op != 9) = true := by rw [o15]; rfl
          have p15 : (t.op == 15) = true := by rw [o15]; rfl
          have r15 : (t.op != 15) = false := by rw [o15]; rfl
          have p7 : (t.op == 7) = false := by rw [o15]; rfl
          have r7 : (t.op != 7) = true := by rw [o15]; rfl
          clear o15
          have HCN := Lib.hid (fun (wx : World) => implConOk t.s wx hsz2)
          rw [cn] at HCN
          clear cn
          go_enter Tryz.func31, Tryz.ntmps31
          go_wp2_with fail
          go_quiet (fail)
          go_wp2_with fail
          rw [← EQ.out]
          go_region_held3 (fun w' => ∀ i, w'.cell? ⟨w.heap.size, i, none⟩ = (#[.int .i64 t.op, .int .i64 t.n, .string t.s, .string t.t, .slice A1 t.kids.length c1] : Array Value)[i]?) (first | exact hc9 | exact hc8 | exact fun i => R.out.cell i) (first | (go_at_call 56; (try rw [← EQ.out]); refine (HCN.out _).mono ?_; rintro e w6 ⟨rfl, rfl⟩))
          all_goals
            go_wp2_with fail
            go_ret
            first | exact ⟨ret_bool (hx.out.symm), E.out.trans (B7.out.mono E.out.size)⟩ | exact ⟨ret_bool (hx.out.symm), E.out.trans (B8.out.mono E.out.size)⟩ | exact ⟨ret_bool (hx.out.symm), E.out.trans (B9.out.mono E.out.size)⟩ | exact ⟨ret_bool (hx.out.symm), E.out⟩ | exact ⟨ret_bool (hx.out.symm), belowN E.out _⟩ | exact ⟨ret_bool (hx.out.symm), (belowN E.out _).drew⟩ | exact ⟨ret_bool (hx.out.symm), (Below.refl _ _).alloc (Nat.le_refl _) _⟩ | exact ⟨ret_bool (hx.out.symm), belowN ((Below.refl _ _).alloc (Nat.le_refl _) _) _⟩
        · skip
          have hv := Lib.hid (show exp1 t.op t.n t.s t.t t.kids.length = true from by unfold exp1; simp [o15, cn, a, te])
          have hx := Lib.hid (show t.exp = t.kids.all GNode.exp by rw [hte.out, hv.out, if_neg (by omega), GNode.expL_all]; rfl)
          have p1 : (t.op == 1) = false := by rw [o15]; rfl
          have r1 : (t.op != 1) = true := by rw [o15]; rfl
          have p2 : (t.op == 2) = false := by rw [o15]; rfl
          have r2 : (t.op != 2) = true := by rw [o15]; rfl
          have p3 : (t.op == 3) = false := by rw [o15]; rfl
          have r3 : (t.op != 3) = true := by rw [o15]; rfl
          have p16 : (t.op == 16) = false := by rw [o15]; rfl
          have r16 : (t.op != 16) = true := by rw [o15]; rfl
          have p5 : (t.op == 5) = false := by rw [o15]; rfl
          have r5 : (t.op != 5) = true := by rw [o15]; rfl
          have p6 : (t.op == 6) = false := by rw [o15]; rfl
          have r6 : (t.op != 6) = true := by rw [o15]; rfl
          have p4 : (t.op == 4) = false := by rw [o15]; rfl
          have r4 : (t.op != 4) = true := by rw [o15]; rfl
          have p10 : (t.op == 10) = false := by rw [o15]; rfl
          have r10 : (t.op != 10) = true := by rw [o15]; rfl
          have p11 : (t.op == 11) = false := by rw [o15]; rfl
          have r11 : (t.op != 11) = true := by rw [o15]; rfl
          have p12 : (t.op == 12) = false := by rw [o15]; rfl
          have r12 : (t.op != 12) = true := by rw [o15]; rfl
          have p13 : (t.op == 13) = false := by rw [o15]; rfl
          have r13 : (t.op != 13) = true := by rw [o15]; rfl
          have p14 : (t.op == 14) = false := by rw [o15]; rfl
          have r14 : (t.op != 14) = true := by rw [o15]; rfl
          have p9 : (t.op == 9) = false := by rw [o15]; rfl
          have r9 : (t.op != 9) = true := by rw [o15]; rfl
          have p15 : (t.op == 15) = true := by rw [o15]; rfl
          have r15 : (t.op != 15) = false := by rw [o15]; rfl
          have p7 : (t.op == 7) = false := by rw [o15]; rfl
          have r7 : (t.op != 7) = true := by rw [o15]; rfl
          clear o15
          have HCN := Lib.hid (fun (wx : World) => implConOk t.s wx hsz2)
          rw [cn] at HCN
          clear cn
          go_enter Tryz.func31, Tryz.ntmps31
          go_wp2_with fail
          go_quiet (fail)
          go_wp2_with fail
          rw [← EQ.out]
          go_region_held3 (fun w' => ∀ i, w'.cell? ⟨w.heap.size, i, none⟩ = (#[.int .i64 t.op, .int .i64 t.n, .string t.s, .string t.t, .slice A1 t.kids.length c1] : Array Value)[i]?) (first | exact hc9 | exact hc8 | exact fun i => R.out.cell i) (first | (go_at_call 56; (try rw [← EQ.out]); refine (HCN.out _).mono ?_; rintro e w6 ⟨rfl, rfl⟩))
          all_goals
            go_wp2_with (first | (go_at_call 36; (try rw [← EQ.out]); refine (HAN.out _ (by first | exact B8.out | exact B9.out | exact Below.refl _ _ | exact belowN (Below.refl _ _) _ | exact (belowN (Below.refl _ _) _).drew)).mono ?_; rintro e w7 ⟨rfl, hb7⟩; have B7 : Hid (Below w0.heap.size w0 w7) := (by first | exact Lib.hid (B8.out.trans (hb7.mono B8.out.size)) | exact Lib.hid (B9.out.trans (hb7.mono B9.out.size)) | exact Lib.hid hb7 | exact Lib.hid ((belowN (Below.refl w0.heap.size w0) _).trans hb7) | exact Lib.hid (((belowN (Below.refl w0.heap.size w0) _).drew).trans hb7)); clear hb7))
            go_ret
            first | exact ⟨ret_bool (hx.out.symm), E.out.trans (B7.out.mono E.out.size)⟩ | exact ⟨ret_bool (hx.out.symm), E.out.trans (B8.out.mono E.out.size)⟩ | exact ⟨ret_bool (hx.out.symm), E.out.trans (B9.out.mono E.out.size)⟩ | exact ⟨ret_bool (hx.out.symm), E.out⟩ | exact ⟨ret_bool (hx.out.symm), belowN E.out _⟩ | exact ⟨ret_bool (hx.out.symm), (belowN E.out _).drew⟩ | exact ⟨ret_bool (hx.out.symm), (Below.refl _ _).alloc (Nat.le_refl _) _⟩ | exact ⟨ret_bool (hx.out.symm), belowN ((Below.refl _ _).alloc (Nat.le_refl _) _) _⟩

set_option maxRecDepth 20000 in
theorem implExp_7 (t : GNode) (A1 : Option Addr) (c1 : Nat) (w : World) (o7 : t.op = 7)
    (HKK : ∀ x ∈ t.kids, ∀ (A2 : Option Addr) (c2 : Nat) (w2 : World), GNode.At w2 (Lt w2.heap.size) A2 c2 x → Calls Tryz.prog 31 #[.agg #[.int .i64 x.op, .int .i64 x.n, .string x.s, .string x.t, .slice A2 x.kids.length c2]] w2 fun e w' => e = .returned (.bool x.exp) ∧ Below w2.heap.size w2 w')
    (HK2 : ∀ y ∈ t.kids, ∀ (A2 : Option Addr) (c2 : Nat) (w2 : World), GNode.At w2 (Lt w2.heap.size) A2 c2 y → Calls Tryz.prog 57 #[.agg #[.int .i64 y.op, .int .i64 y.n, .string y.s, .string y.t, .slice A2 y.kids.length c2]] w2 fun e w' => e = .returned (.bool y.alt) ∧ Below w2.heap.size w2 w')
    (ht : GNode.At w (Lt w.heap.size) A1 c1 t) :
    Calls Tryz.prog 31 #[.agg #[.int .i64 t.op, .int .i64 t.n, .string t.s, .string t.t, .slice A1 t.kids.length c1]] w fun e w' => e = .returned (.bool t.exp) ∧ Below w.heap.size w w' := by
    obtain ⟨h0, h1, h2, h3, hs⟩ := id ht
    have hsz2 : t.s.size ≤ 9223372036854775807 := by unfold maxLen at h2; omega
    have hsz3 : t.t.size ≤ 9223372036854775807 := by unfold maxLen at h3; omega
    have hlen : t.kids.length ≤ 9223372036854775807 := by simpa using hs.len
    have hte := Lib.hid t.exp_eq
    obtain ⟨w0, e0⟩ : ∃ w0, w0 = w.alloc (.cells #[.int .i64 t.op, .int .i64 t.n, .string t.s, .string t.t, .slice A1 t.kids.length c1] 33) := ⟨_, rfl⟩
    have E := Lib.hid (show Below w.heap.size w w0 by rw [e0]; exact (Below.refl _ _).alloc (Nat.le_refl _) _)
    have R := Lib.hid (show Row w0 w.heap.size 33 #[.int .i64 t.op, .int .i64 t.n, .string t.s, .string t.t, .slice A1 t.kids.length c1] by rw [e0]; exact Row.new' _ _ _ rfl)
    have EQ := Lib.hid e0
    have HAN := Lib.hid (fun (wx : World) (hb : Below w0.heap.size w0 wx) => implAllNodes 31 (enters Tryz.func31 (by kernel_rfl) (by kernel_rfl)) #[] GNode.exp t.kids A1 c1 wx (hs.below (E.out.trans (hb.mono E.out.size)) (Nat.le_trans E.out.size hb.size)) (fun x hx A2 c2 w2 _ hx2 => HKK x hx A2 c2 w2 hx2))
    have HKH := Lib.hid HKK
    have HAL := Lib.hid HK2
    have HSS := Lib.hid hs
    have hc0 := fun i => R.out.cell i
    clear HKK HK2 e0 h0 h1 h2 h3 hs ht
    cases a : (t.n == 0)
    · skip
      have hv := Lib.hid (show exp1 t.op t.n t.s t.t t.kids.length = false from by unfold exp1; simp [o7, a])
      have hx := Lib.hid (show t.exp = false by rw [hte.out, hv.out]; rfl)
      have p1 : (t.op == 1) = false := by rw [o7]; rfl
      have r1 : (t.op != 1) = true := by rw [o7]; rfl
      have p2 : (t.op == 2) = false := by rw [o7]; rfl
      have r2 : (t.op != 2) = true := by rw [o7]; rfl
      have p3 : (t.op == 3) = false := by rw [o7]; rfl
      have r3 : (t.op != 3) = true := by rw [o7]; rfl
      have p16 : (t.op == 16) = false := by rw [o7]; rfl
      have r16 : (t.op != 16) = true := by rw [o7]; rfl
      have p5 : (t.op == 5) = false := by rw [o7]; rfl
      have r5 : (t.op != 5) = true := by rw [o7]; rfl
      have p6 : (t.op == 6) = false := by rw [o7]; rfl
      have r6 : (t.op != 6) = true := by rw [o7]; rfl
      have p4 : (t.op == 4) = false := by rw [o7]; rfl
      have r4 : (t.op != 4) = true := by rw [o7]; rfl
      have p10 : (t.op == 10) = false := by rw [o7]; rfl
      have r10 : (t.op != 10) = true := by rw [o7]; rfl
      have p11 : (t.op == 11) = false := by rw [o7]; rfl
      have r11 : (t.op != 11) = true := by rw [o7]; rfl
      have p12 : (t.op == 12) = false := by rw [o7]; rfl
      have r12 : (t.op != 12) = true := by rw [o7]; rfl
      have p13 : (t.op == 13) = false := by rw [o7]; rfl
      have r13 : (t.op != 13) = true := by rw [o7]; rfl
      have p14 : (t.op == 14) = false := by rw [o7]; rfl
      have r14 : (t.op != 14) = true := by rw [o7]; rfl
      have p9 : (t.op == 9) = false := by rw [o7]; rfl
      have r9 : (t.op != 9) = true := by rw [o7]; rfl
      have p15 : (t.op == 15) = false := by rw [o7]; rfl
      have r15 : (t.op != 15) = true := by rw [o7]; rfl
      have p7 : (t.op == 7) = true := by rw [o7]; rfl
      have r7 : (t.op != 7) = false := by rw [o7]; rfl
      clear o7
      go_enter Tryz.func31, Tryz.ntmps31
      go_wp2_with fail
      go_quiet (fail)
      go_wp2_with fail
      go_ret
      first | exact ⟨ret_bool (hx.out.symm), E.out.trans (B7.out.mono E.out.size)⟩ | exact ⟨ret_bool (hx.out.symm), E.out.trans (B8.out.mono E.out.size)⟩ | exact ⟨ret_bool (hx.out.symm), E.out.trans (B9.out.mono E.out.size)⟩ | exact ⟨ret_bool (hx.out.symm), E.out⟩ | exact ⟨ret_bool (hx.out.symm), belowN E.out _⟩ | exact ⟨ret_bool (hx.out.symm), (belowN E.out _).drew⟩ | exact ⟨ret_bool (hx.out.symm), (Below.refl _ _).alloc (Nat.le_refl _) _⟩ | exact ⟨ret_bool (hx.out.symm), belowN ((Below.refl _ _).alloc (Nat.le_refl _) _) _⟩
    · skip
      cases b : (t.s.toList.isEmpty)
      · skip
        have hv := Lib.hid (show exp1 t.op t.n t.s t.t t.kids.length = false from by unfold exp1; simp [o7, a, b])
        have hx := Lib.hid (show t.exp = false by rw [hte.out, hv.out]; rfl)
        have p1 : (t.op == 1) = false := by rw [o7]; rfl
        have r1 : (t.op != 1) = true := by rw [o7]; rfl
        have p2 : (t.op == 2) = false := by rw [o7]; rfl
        have r2 : (t.op != 2) = true := by rw [o7]; rfl
        have p3 : (t.op == 3) = false := by rw [o7]; rfl
        have r3 : (t.op != 3) = true := by rw [o7]; rfl
        have p16 : (t.op == 16) = false := by rw [o7]; rfl
        have r16 : (t.op != 16) = true := by rw [o7]; rfl
        have p5 : (t.op == 5) = false := by rw [o7]; rfl
        have r5 : (t.op != 5) = true := by rw [o7]; rfl
        have p6 : (t.op == 6) = false := by rw [o7]; rfl
        have r6 : (t.op != 6) = true := by rw [o7]; rfl
        have p4 : (t.op == 4) = false := by rw [o7]; rfl
        have r4 : (t.op != 4) = true := by rw [o7]; rfl
        have p10 : (t.op == 10) = false := by rw [o7]; rfl
        have r10 : (t.op != 10) = true := by rw [o7]; rfl
        have p11 : (t.op == 11) = false := by rw [o7]; rfl
        have r11 : (t.op != 11) = true := by rw [o7]; rfl
        have p12 : (t.op == 12) = false := by rw [o7]; rfl
        have r12 : (t.op != 12) = true := by rw [o7]; rfl
        have p13 : (t.op == 13) = false := by rw [o7]; rfl
        have r13 : (t.op != 13) = true := by rw [o7]; rfl
        have p14 : (t.op == 14) = false := by rw [o7]; rfl
        have r14 : (t.op != 14) = true := by rw [o7]; rfl
        have p9 : (t.op == 9) = false := by rw [o7]; rfl
        have r9 : (t.op != 9) = true := by rw [o7]; rfl
        have p15 : (t.op == 15) = false := by rw [o7]; rfl
        have r15 : (t.op != 15) = true := by rw [o7]; rfl
        have p7 : (t.op == 7) = true := by rw [o7]; rfl
        have r7 : (t.op != 7) = false := by rw [o7]; rfl
        clear o7
        go_enter Tryz.func31, Tryz.ntmps31
        go_wp2_with fail
        go_quiet (fail)
        go_wp2_with fail
        go_ret
        first | exact ⟨ret_bool (hx.out.symm), E.out.trans (B7.out.mono E.out.size)⟩ | exact ⟨ret_bool (hx.out.symm), E.out.trans (B8.out.mono E.out.size)⟩ | exact ⟨ret_bool (hx.out.symm), E.out.trans (B9.out.mono E.out.size)⟩ | exact ⟨ret_bool (hx.out.symm), E.out⟩ | exact ⟨ret_bool (hx.out.symm), belowN E.out _⟩ | exact ⟨ret_bool (hx.out.symm), (belowN E.out _).drew⟩ | exact ⟨ret_bool (hx.out.symm), (Below.refl _ _).alloc (Nat.le_refl _) _⟩ | exact ⟨ret_bool (hx.out.symm), belowN ((Below.refl _ _).alloc (Nat.le_refl _) _) _⟩
      · skip
        cases te : (t.t.toList.isEmpty)
        · skip
          have hv := Lib.hid (show exp1 t.op t.n t.s t.t t.kids.length = false from by unfold exp1; simp [o7, a, b, te])
          have hx := Lib.hid (show t.exp = false by rw [hte.out, hv.out]; rfl)
          have p1 : (t.op == 1) = false := by rw [o7]; rfl
          have r1 : (t.op != 1) = true := by rw [o7]; rfl
          have p2 : (t.op == 2) = false := by rw [o7]; rfl
          have r2 : (t.op != 2) = true := by rw [o7]; rfl
          have p3 : (t.op == 3) = false := by rw [o7]; rfl
          have r3 : (t.op != 3) = true := by rw [o7]; rfl
          have p16 : (t.op == 16) = false := by rw [o7]; rfl
          have r16 : (t.op != 16) = true := by rw [o7]; rfl
          have p5 : (t.op == 5) = false := by rw [o7]; rfl
          have r5 : (t.op != 5) = true := by rw [o7]; rfl
          have p6 : (t.op == 6) = false := by rw [o7]; rfl
          have r6 : (t.op != 6) = true := by rw [o7]; rfl
          have p4 : (t.op == 4) = false := by rw [o7]; rfl
          have r4 : (t.op != 4) = true := by rw [o7]; rfl
          have p10 : (t.op == 10) = false := by rw [o7]; rfl
          have r10 : (t.op != 10) = true := by rw [o7]; rfl
          have p11 : (t.op == 11) = false := by rw [o7]; rfl
          have r11 : (t.op != 11) = true := by rw [o7]; rfl
          have p12 : (t.op == 12) = false := by rw [o7]; rfl
          have r12 : (t.op != 12) = true := by rw [o7]; rfl
          have p13 : (t.op == 13) = false := by rw [o7]; rfl
          have r13 : (t.op != 13) = true := by rw [o7]; rfl
          have p14 : (t.op == 14) = false := by rw [o7]; rfl
          have r14 : (t.op != 14) = true := by rw [o7]; rfl
          have p9 : (t.op == 9) = false := by rw [o7]; rfl
          have r9 : (t.op != 9) = true := by rw [o7]; rfl
          have p15 : (t.op == 15) = false := by rw [o7]; rfl
          have r15 : (t.op != 15) = true := by rw [o7]; rfl
          have p7 : (t.op == 7) = true := by rw [o7]; rfl
          have r7 : (t.op != 7) = false := by rw [o7]; rfl
          clear o7
          go_enter Tryz.func31, Tryz.ntmps31
          go_wp2_with fail
          go_quiet (fail)
          go_wp2_with fail
          go_ret
          first | exact ⟨ret_bool (hx.out.symm), E.out.trans (B7.out.mono E.out.size)⟩ | exact ⟨ret_bool (hx.out.symm), E.out.trans (B8.out.mono E.out.size)⟩ | exact ⟨ret_bool (hx.out.symm), E.out.trans (B9.out.mono E.out.size)⟩ | exact ⟨ret_bool (hx.out.symm), E.out⟩ | exact ⟨ret_bool (hx.out.symm), belowN E.out _⟩ | exact ⟨ret_bool (hx.out.symm), (belowN E.out _).drew⟩ | exact ⟨ret_bool (hx.out.symm), (Below.refl _ _).alloc (Nat.le_refl _) _⟩ | exact ⟨ret_bool (hx.out.symm), belowN ((Below.refl _ _).alloc (Nat.le_refl _) _) _⟩
        · skip
          have hv := Lib.hid (show exp1 t.op t.n t.s t.t t.kids.length = decide (2 ≤ t.kids.length) from by unfold exp1; simp [o7, a, b, te])
          have hxc := Lib.hid (show t.exp = (decide (2 ≤ t.kids.length) && GNode.caseL t.kids) by rw [hte.out, hv.out, if_pos o7])
          have p1 : (t.op == 1) = false := by rw [o7]; rfl
          have r1 : (t.op != 1) = true := by rw [o7]; rfl
          have p2 : (t.op == 2) = false := by rw [o7]; rfl
          have r2 : (t.op != 2) = true := by rw [o7]; rfl
          have p3 : (t.op == 3) = false := by rw [o7]; rfl
          have r3 : (t.op != 3) = true := by rw [o7]; rfl
          have p16 : (t.op == 16) = false := by rw [o7]; rfl
          have r16 : (t.op != 16) = true := by rw [o7]; rfl
          have p5 : (t.op == 5) = false := by rw [o7]; rfl
          have r5 : (t.op != 5) = true := by rw [o7]; rfl
          have p6 : (t.op == 6) = false := by rw [o7]; rfl
          have r6 : (t.op != 6) = true := by rw [o7]; rfl
          have p4 : (t.op == 4) = false := by rw [o7]; rfl
          have r4 : (t.op != 4) = true := by rw [o7]; rfl
          have p10 : (t.op == 10) = false := by rw [o7]; rfl
          have r10 : (t.op != 10) = true := by rw [o7]; rfl
          have p11 : (t.op == 11) = false := by rw [o7]; rfl
          have r11 : (t.op != 11) = true := by rw [o7]; rfl
          have p12 : (t.op == 12) = false := by rw [o7]; rfl
          have r12 : (t.op != 12) = true := by rw [o7]; rfl
          have p13 : (t.op == 13) = false := by rw [o7]; rfl
          have r13 : (t.op != 13) = true := by rw [o7]; rfl
          have p14 : (t.op == 14) = false := by rw [o7]; rfl
          have r14 : (t.op != 14) = true := by rw [o7]; rfl
          have p9 : (t.op == 9) = false := by rw [o7]; rfl
          have r9 : (t.op != 9) = true := by rw [o7]; rfl
          have p15 : (t.op == 15) = false := by rw [o7]; rfl
          have r15 : (t.op != 15) = true := by rw [o7]; rfl
          have p7 : (t.op == 7) = true := by rw [o7]; rfl
          have r7 : (t.op != 7) = false := by rw [o7]; rfl
          clear o7
          by_cases h2 : 2 ≤ t.kids.length
          · obtain ⟨x, r, hxr⟩ := List.exists_cons_of_length_pos (l := t.kids) (by omega)
            have hd2 : decide (2 ≤ t.kids.length) = true := decide_eq_true h2
            have hx := Lib.hid (show t.exp = (x.exp && r.all GNode.alt) by rw [hxc.out, hd2, hxr, GNode.caseL_cons]; rfl)
            have hs := HSS.out
            rw [hxr] at hs
            obtain ⟨b1, off1, A4, c4, eA, hS1, x0, x1, x2, x3, x4, hatx⟩ := GNode.elem hs 0 (by simp)
            simp only [Nat.zero_mul, Nat.add_zero, List.getElem_cons_zero] at x0 x1 x2 x3 x4 hatx
            subst eA
            have hll : t.kids.length = r.length + 1 := by rw [hxr]; rfl
            have hlc : t.kids.length ≤ c1 := by have := hs.1; simp at this; omega
            have HTL := Lib.hid (Sl.tailAt hs)
            have htl := fun (wx : World) => run_tailAt (P := Tryz.prog) 31 33 5 Tryz.underlying31 (by kernel_rfl) b1 off1 r.length c1 (by omega) wx
            rw [← hll] at htl
            have HX := Lib.hid (fun (wx : World) (hb : Below w0.heap.size w0 wx) => HKH.out x (by rw [hxr]; simp) A4 c4 wx (hatx.keep (keep_below (E.out.trans (hb.mono E.out.size)) (Nat.le_trans E.out.size hb.size))))
            have HAR := Lib.hid (fun (wx : World) (hb : Below w0.heap.size w0 wx) => implAllNodes 57 (enters Tryz.func57 (by kernel_rfl) (by kernel_rfl)) #[] GNode.alt r (tailAt b1 off1 5 c1) (c1 - 1) wx (HTL.out.below (E.out.trans (hb.mono E.out.size)) (Nat.le_trans E.out.size hb.size)) (fun y hy A2 c2 w2 _ hy2 => HAL.out y (by rw [hxr]; simp [hy]) A2 c2 w2 hy2))
            have hn0 : 0 < t.kids.length := by omega
            have hn1 : 1 ≤ t.kids.length := by omega
            have hg2 : (2 : Int) ≤ (t.kids.length : Int) := by omega
            have z0 := (E.out.cell (p := ⟨b1, off1, none⟩) hS1).trans x0
            have z1 := (E.out.cell (p := ⟨b1, off1 + 1, none⟩) hS1).trans x1
            have z2 := (E.out.cell (p := ⟨b1, off1 + 2, none⟩) hS1).trans x2
            have z3 := (E.out.cell (p := ⟨b1, off1 + 3, none⟩) hS1).trans x3
            have z4 := (E.out.cell (p := ⟨b1, off1 + 4, none⟩) hS1).trans x4
            rw [EQ.out] at z0 z1 z2 z3 z4
            clear hxr hs hatx x0 x1 x2 x3 x4 hll hd2
            cases hxe : x.exp
            · have hx2 := Lib.hid (show t.exp = false by rw [hx.out, hxe]; rfl)
              have HXV := Lib.hid (fun (wx : World) (hb : Below w0.heap.size w0 wx) => HX.out wx hb)
              rw [hxe] at HXV
              clear hxe
              go_enter Tryz.func31, Tryz.ntmps31
              go_wp2_with fail
              go_quiet (fail)
              go_wp2_with fail
              rw [← EQ.out]
              refine (HXV.out _ (belowN (Below.refl _ _) _)).mono ?_
              rintro e w9 ⟨rfl, hb9⟩
              have B9 := Lib.hid ((belowN (Below.refl w0.heap.size w0) _).trans hb9)
              have R9 := Lib.hid (R.out.below B9.out R.out.lt)
              have hc9 := fun i => R9.out.cell i
              clear hb9
              go_wp2_with fail
              go_ret
              first | exact ⟨ret_bool (hx2.out.symm), E.out.trans (B7.out.mono E.out.size)⟩ | exact ⟨ret_bool (hx2.out.symm), E.out.trans (B8.out.mono E.out.size)⟩ | exact ⟨ret_bool (hx2.out.symm), E.out.trans (B9.out.mono E.out.size)⟩ | exact ⟨ret_bool (hx2.out.symm), E.out⟩ | exact ⟨ret_bool (hx2.out.symm), belowN E.out _⟩ | exact ⟨ret_bool (hx2.out.symm), (belowN E.out _).drew⟩ | exact ⟨ret_bool (hx2.out.symm), (Below.refl _ _).alloc (Nat.le_refl _) _⟩ | exact ⟨ret_bool (hx2.out.symm), belowN ((Below.refl _ _).alloc (Nat.le_refl _) _) _⟩
            · have hx2 := Lib.hid (show t.exp = r.all GNode.alt by rw [hx.out, hxe]; rfl)
              have HXV := Lib.hid (fun (wx : World) (hb : Below w0.heap.size w0 wx) => HX.out wx hb)
              rw [hxe] at HXV
              clear hxe
              go_enter Tryz.func31, Tryz.ntmps31
              go_wp2_with fail
              go_quiet (fail)
              go_wp2_with fail
              rw [← EQ.out]
              refine (HXV.out _ (belowN (Below.refl _ _) _)).mono ?_
              rintro e w9 ⟨rfl, hb9⟩
              have B9 := Lib.hid ((belowN (Below.refl w0.heap.size w0) _).trans hb9)
              have R9 := Lib.hid (R.out.below B9.out R.out.lt)
              have hc9 := fun i => R9.out.cell i
              clear hb9
              go_wp2_with fail
              refine (HAR.out _ B9.out).mono ?_
              rintro e w8 ⟨rfl, hb8⟩
              have B8 := Lib.hid (B9.out.trans (hb8.mono B9.out.size))
              clear hb8
              go_wp2_with fail
              go_ret
              first | exact ⟨ret_bool (hx2.out.symm), E.out.trans (B7.out.mono E.out.size)⟩ | exact ⟨ret_bool (hx2.out.symm), E.out.trans (B8.out.mono E.out.size)⟩ | exact ⟨ret_bool (hx2.out.symm), E.out.trans (B9.out.mono E.out.size)⟩ | exact ⟨ret_bool (hx2.out.symm), E.out⟩ | exact ⟨ret_bool (hx2.out.symm), belowN E.out _⟩ | exact ⟨ret_bool (hx2.out.symm), (belowN E.out _).drew⟩ | exact ⟨ret_bool (hx2.out.symm), (Below.refl _ _).alloc (Nat.le_refl _) _⟩ | exact ⟨ret_bool (hx2.out.symm), belowN ((Below.refl _ _).alloc (Nat.le_refl _) _) _⟩
          · have hd2 : decide (2 ≤ t.kids.length) = false := decide_eq_false h2
            have hx := Lib.hid (show t.exp = false by rw [hxc.out, hd2]; rfl)
            go_enter Tryz.func31, Tryz.ntmps31
            go_wp2_with fail
            go_quiet (fail)
            go_wp2_with fail
            go_ret
            first | exact ⟨ret_bool (hx.out.symm), E.out.trans (B7.out.mono E.out.size)⟩ | exact ⟨ret_bool (hx.out.symm), E.out.trans (B8.out.mono E.out.size)⟩ | exact ⟨ret_bool (hx.out.symm), E.out.trans (B9.out.mono E.out.size)⟩ | exact ⟨ret_bool (hx.out.symm), E.out⟩ | exact ⟨ret_bool (hx.out.symm), belowN E.out _⟩ | exact ⟨ret_bool (hx.out.symm), (belowN E.out _).drew⟩ | exact ⟨ret_bool (hx.out.symm), (Below.refl _ _).alloc (Nat.le_refl _) _⟩ | exact ⟨ret_bool (hx.out.symm), belowN ((Below.refl _ _).alloc (Nat.le_refl _) _) _⟩

set_option maxRecDepth 20000 in
theorem implExp_o (t : GNode) (A1 : Option Addr) (c1 : Nat) (w : World) (o1 : ¬ t.op = 1) (o2 : ¬ t.op = 2) (o3 : ¬ t.op = 3) (o16 : ¬ t.op = 16) (o5 : ¬ t.op = 5) (o6 : ¬ t.op = 6) (o4 : ¬ t.op = 4) (o10 : ¬ t.op = 10) (o11 : ¬ t.op = 11) (o12 : ¬ t.op = 12) (o13 : ¬ t.op = 13) (o14 : ¬ t.op = 14) (o9 : ¬ t.op = 9) (o15 : ¬ t.op = 15) (o7 : ¬ t.op = 7)
    (HKK : ∀ x ∈ t.kids, ∀ (A2 : Option Addr) (c2 : Nat) (w2 : World), GNode.At w2 (Lt w2.heap.size) A2 c2 x → Calls Tryz.prog 31 #[.agg #[.int .i64 x.op, .int .i64 x.n, .string x.s, .string x.t, .slice A2 x.kids.length c2]] w2 fun e w' => e = .returned (.bool x.exp) ∧ Below w2.heap.size w2 w')
    (HK2 : ∀ y ∈ t.kids, ∀ (A2 : Option Addr) (c2 : Nat) (w2 : World), GNode.At w2 (Lt w2.heap.size) A2 c2 y → Calls Tryz.prog 57 #[.agg #[.int .i64 y.op, .int .i64 y.n, .string y.s, .string y.t, .slice A2 y.kids.length c2]] w2 fun e w' => e = .returned (.bool y.alt) ∧ Below w2.heap.size w2 w')
    (ht : GNode.At w (Lt w.heap.size) A1 c1 t) :
    Calls Tryz.prog 31 #[.agg #[.int .i64 t.op, .int .i64 t.n, .string t.s, .string t.t, .slice A1 t.kids.length c1]] w fun e w' => e = .returned (.bool t.exp) ∧ Below w.heap.size w w' := by
    obtain ⟨h0, h1, h2, h3, hs⟩ := id ht
    have hsz2 : t.s.size ≤ 9223372036854775807 := by unfold maxLen at h2; omega
    have hsz3 : t.t.size ≤ 9223372036854775807 := by unfold maxLen at h3; omega
    have hlen : t.kids.length ≤ 9223372036854775807 := by simpa using hs.len
    have hte := Lib.hid t.exp_eq
    obtain ⟨w0, e0⟩ : ∃ w0, w0 = w.alloc (.cells #[.int .i64 t.op, .int .i64 t.n, .string t.s, .string t.t, .slice A1 t.kids.length c1] 33) := ⟨_, rfl⟩
    have E := Lib.hid (show Below w.heap.size w w0 by rw [e0]; exact (Below.refl _ _).alloc (Nat.le_refl _) _)
    have R := Lib.hid (show Row w0 w.heap.size 33 #[.int .i64 t.op, .int .i64 t.n, .string t.s, .string t.t, .slice A1 t.kids.length c1] by rw [e0]; exact Row.new' _ _ _ rfl)
    have EQ := Lib.hid e0
    have HAN := Lib.hid (fun (wx : World) (hb : Below w0.heap.size w0 wx) => implAllNodes 31 (enters Tryz.func31 (by kernel_rfl) (by kernel_rfl)) #[] GNode.exp t.kids A1 c1 wx (hs.below (E.out.trans (hb.mono E.out.size)) (Nat.le_trans E.out.size hb.size)) (fun x hx A2 c2 w2 _ hx2 => HKK x hx A2 c2 w2 hx2))
    have HKH := Lib.hid HKK
    have HAL := Lib.hid HK2
    have HSS := Lib.hid hs
    have hc0 := fun i => R.out.cell i
    clear HKK HK2 e0 h0 h1 h2 h3 hs ht
    cases a : (t.n == 0)
    · skip
      have iv : inB t.op 10 14 = false := decide_eq_false (by omega)
      have hv := Lib.hid (show exp1 t.op t.n t.s t.t t.kids.length = false from by unfold exp1; simp [o1, o2, o3, o16, o5, o6, o4, o10, o11, o12, o13, o14, o9, o15, o7, a, iv])
      have hx := Lib.hid (show t.exp = false by rw [hte.out, hv.out]; rfl)
      clear iv
      have p1 : (t.op == 1) = false := by simpa using o1
      have r1 : (t.op != 1) = true := by simp [bne, p1]
      have p2 : (t.op == 2) = false := by simpa using o2
      have r2 : (t.op != 2) = true := by simp [bne, p2]
      have p3 : (t.op == 3) = false := by simpa using o3
      have r3 : (t.op != 3) = true := by simp [bne, p3]
      have p16 : (t.op == 16) = false := by simpa using o16
      have r16 : (t.op != 16) = true := by simp [bne, p16]
      have p5 : (t.op == 5) = false := by simpa using o5
      have r5 : (t.op != 5) = true := by simp [bne, p5]
      have p6 : (t.op == 6) = false := by simpa using o6
      have r6 : (t.op != 6) = true := by simp [bne, p6]
      have p4 : (t.op == 4) = false := by simpa using o4
      have r4 : (t.op != 4) = true := by simp [bne, p4]
      have p10 : (t.op == 10) = false := by simpa using o10
      have r10 : (t.op != 10) = true := by simp [bne, p10]
      have p11 : (t.op == 11) = false := by simpa using o11
      have r11 : (t.op != 11) = true := by simp [bne, p11]
      have p12 : (t.op == 12) = false := by simpa using o12
      have r12 : (t.op != 12) = true := by simp [bne, p12]
      have p13 : (t.op == 13) = false := by simpa using o13
      have r13 : (t.op != 13) = true := by simp [bne, p13]
      have p14 : (t.op == 14) = false := by simpa using o14
      have r14 : (t.op != 14) = true := by simp [bne, p14]
      have p9 : (t.op == 9) = false := by simpa using o9
      have r9 : (t.op != 9) = true := by simp [bne, p9]
      have p15 : (t.op == 15) = false := by simpa using o15
      have r15 : (t.op != 15) = true := by simp [bne, p15]
      have p7 : (t.op == 7) = false := by simpa using o7
      have r7 : (t.op != 7) = true := by simp [bne, p7]
      clear o1
      clear o2
      clear o3
      clear o16
      clear o5
      clear o6
      clear o4
      clear o10
      clear o11
      clear o12
      clear o13
      clear o14
      clear o9
      clear o15
      clear o7
      go_enter Tryz.func31, Tryz.ntmps31
      go_wp2_with fail
      go_quiet (fail)
      go_wp2_with fail
      go_ret
      first | exact ⟨ret_bool (hx.out.symm), E.out.trans (B7.out.mono E.out.size)⟩ | exact ⟨ret_bool (hx.out.symm), E.out.trans (B8.out.mono E.out.size)⟩ | exact ⟨ret_bool (hx.out.symm), E.out.trans (B9.out.mono E.out.size)⟩ | exact ⟨ret_bool (hx.out.symm), E.out⟩ | exact ⟨ret_bool (hx.out.symm), belowN E.out _⟩ | exact ⟨ret_bool (hx.out.symm), (belowN E.out _).drew⟩ | exact ⟨ret_bool (hx.out.symm), (Below.refl _ _).alloc (Nat.le_refl _) _⟩ | exact ⟨ret_bool (hx.out.symm), belowN ((Below.refl _ _).alloc (Nat.le_refl _) _) _⟩
    · skip
      cases b : (t.s.toList.isEmpty)
      · skip
        have iv : inB t.op 10 14 = false := decide_eq_false (by omega)
        have hv := Lib.hid (show exp1 t.op t.n t.s t.t t.kids.length = false from by unfold exp1; simp [o1, o2, o3, o16, o5, o6, o4, o10, o11, o12, o13, o14, o9, o15, o7, a, b, iv])
        have hx := Lib.hid (show t.exp = false by rw [hte.out, hv.out]; rfl)
        clear iv
        have p1 : (t.op == 1) = false := by simpa using o1
        have r1 : (t.op != 1) = true := by simp [bne, p1]
        have p2 : (t.op == 2) = false := by simpa using o2
        have r2 : (t.op != 2) = true := by simp [bne, p2]
        have p3 : (t.op == 3) = false := by simpa using o3
        have r3 : (t.op != 3) = true := by simp [bne, p3]
        have p16 : (t.op == 16) = false := by simpa using o16
        have r16 : (t.op != 16) = true := by simp [bne, p16]
        have p5 : (t.op == 5) = false := by simpa using o5
        have r5 : (t.op != 5) = true := by simp [bne, p5]
        have p6 : (t.op == 6) = false := by simpa using o6
        have r6 : (t.op != 6) = true := by simp [bne, p6]
        have p4 : (t.op == 4) = false := by simpa using o4
        have r4 : (t.op != 4) = true := by simp [bne, p4]
        have p10 : (t.op == 10) = false := by simpa using o10
        have r10 : (t.op != 10) = true := by simp [bne, p10]
        have p11 : (t.op == 11) = false := by simpa using o11
        have r11 : (t.op != 11) = true := by simp [bne, p11]
        have p12 : (t.op == 12) = false := by simpa using o12
        have r12 : (t.op != 12) = true := by simp [bne, p12]
        have p13 : (t.op == 13) = false := by simpa using o13
        have r13 : (t.op != 13) = true := by simp [bne, p13]
        have p14 : (t.op == 14) = false := by simpa using o14
        have r14 : (t.op != 14) = true := by simp [bne, p14]
        have p9 : (t.op == 9) = false := by simpa using o9
        have r9 : (t.op != 9) = true := by simp [bne, p9]
        have p15 : (t.op == 15) = false := by simpa using o15
        have r15 : (t.op != 15) = true := by simp [bne, p15]
        have p7 : (t.op == 7) = false := by simpa using o7
        have r7 : (t.op != 7) = true := by simp [bne, p7]
        clear o1
        clear o2
        clear o3
        clear o16
        clear o5
        clear o6
        clear o4
        clear o10
        clear o11
        clear o12
        clear o13
        clear o14
        clear o9
        clear o15
        clear o7
        go_enter Tryz.func31, Tryz.ntmps31
        go_wp2_with fail
        go_quiet (fail)
        go_wp2_with fail
        go_ret
        first | exact ⟨ret_bool (hx.out.symm), E.out.trans (B7.out.mono E.out.size)⟩ | exact ⟨ret_bool (hx.out.symm), E.out.trans (B8.out.mono E.out.size)⟩ | exact ⟨ret_bool (hx.out.symm), E.out.trans (B9.out.mono E.out.size)⟩ | exact ⟨ret_bool (hx.out.symm), E.out⟩ | exact ⟨ret_bool (hx.out.symm), belowN E.out _⟩ | exact ⟨ret_bool (hx.out.symm), (belowN E.out _).drew⟩ | exact ⟨ret_bool (hx.out.symm), (Below.refl _ _).alloc (Nat.le_refl _) _⟩ | exact ⟨ret_bool (hx.out.symm), belowN ((Below.refl _ _).alloc (Nat.le_refl _) _) _⟩
      · skip
        cases te : (t.t.toList.isEmpty)
        · skip
          have iv : inB t.op 10 14 = false := decide_eq_false (by omega)
          have hv := Lib.hid (show exp1 t.op t.n t.s t.t t.kids.length = false from by unfold exp1; simp [o1, o2, o3, o16, o5, o6, o4, o10, o11, o12, o13, o14, o9, o15, o7, a, b, te, iv])
          have hx := Lib.hid (show t.exp = false by rw [hte.out, hv.out]; rfl)
          clear iv
          have p1 : (t.op == 1) = false := by simpa using o1
          have r1 : (t.op != 1) = true := by simp [bne, p1]
          have p2 : (t.op == 2) = false := by simpa using o2
          have r2 : (t.op != 2) = true := by simp [bne, p2]
          have p3 : (t.op == 3) = false := by simpa using o3
          have r3 : (t.op != 3) = true := by simp [bne, p3]
          have p16 : (t.op == 16) = false := by simpa using o16
          have r16 : (t.op != 16) = true := by simp [bne, p16]
          have p5 : (t.op == 5) = false := by simpa using o5
          have r5 : (t.op != 5) = true := by simp [bne, p5]
          have p6 : (t.op == 6) = false := by simpa using o6
          have r6 : (t.op != 6) = true := by simp [bne, p6]
          have p4 : (t.op == 4) = false := by simpa using o4
          have r4 : (t.op != 4) = true := by simp [bne, p4]
          have p10 : (t.op == 10) = false := by simpa using o10
          have r10 : (t.op != 10) = true := by simp [bne, p10]
          have p11 : (t.op == 11) = false := by simpa using o11
          have r11 : (t.op != 11) = true := by simp [bne, p11]
          have p12 : (t.op == 12) = false := by simpa using o12
          have r12 : (t.op != 12) = true := by simp [bne, p12]
          have p13 : (t.op == 13) = false := by simpa using o13
          have r13 : (t.op != 13) = true := by simp [bne, p13]
          have p14 : (t.op == 14) = false := by simpa using o14
          have r14 : (t.op != 14) = true := by simp [bne, p14]
          have p9 : (t.op == 9) = false := by simpa using o9
          have r9 : (t.op != 9) = true := by simp [bne, p9]
          have p15 : (t.op == 15) = false := by simpa using o15
          have r15 : (t.op != 15) = true := by simp [bne, p15]
          have p7 : (t.op == 7) = false := by simpa using o7
          have r7 : (t.op != 7) = true := by simp [bne, p7]
          clear o1
          clear o2
          clear o3
          clear o16
          clear o5
          clear o6
          clear o4
          clear o10
          clear o11
          clear o12
          clear o13
          clear o14
          clear o9
          clear o15
          clear o7
          go_enter Tryz.func31, Tryz.ntmps31
          go_wp2_with fail
          go_quiet (fail)
          go_wp2_with fail
          go_ret
          first | exact ⟨ret_bool (hx.out.symm), E.out.trans (B7.out.mono E.out.size)⟩ | exact ⟨ret_bool (hx.out.symm), E.out.trans (B8.out.mono E.out.size)⟩ | exact ⟨ret_bool (hx.out.symm), E.out.trans (B9.out.mono E.out.size)⟩ | exact ⟨ret_bool (hx.out.symm), E.out⟩ | exact ⟨ret_bool (hx.out.symm), belowN E.out _⟩ | exact ⟨ret_bool (hx.out.symm), (belowN E.out _).drew⟩ | exact ⟨ret_bool (hx.out.symm), (Below.refl _ _).alloc (Nat.le_refl _) _⟩ | exact ⟨ret_bool (hx.out.symm), belowN ((Below.refl _ _).alloc (Nat.le_refl _) _) _⟩
        · skip
          have iv : inB t.op 10 14 = false := decide_eq_false (by omega)
          have hv := Lib.hid (show exp1 t.op t.n t.s t.t t.kids.length = false from by unfold exp1; simp [o1, o2, o3, o16, o5, o6, o4, o10, o11, o12, o13, o14, o9, o15, o7, a, b, te, iv])
          have hx := Lib.hid (show t.exp = false by rw [hte.out, hv.out]; rfl)
          have hm1 : ((t.kids.length : Int) == -1) = false := beq_eq_false_iff_ne.2 (by omega)
          clear iv
          have p1 : (t.op == 1) = false := by simpa using o1
          have r1 : (t.op != 1) = true := by simp [bne, p1]
          have p2 : (t.op == 2) = false := by simpa using o2
          have r2 : (t.op != 2) = true := by simp [bne, p2]
          have p3 : (t.op == 3) = false := by simpa using o3
          have r3 : (t.op != 3) = true := by simp [bne, p3]
          have p16 : (t.op == 16) = false := by simpa using o16
          have r16 : (t.op != 16) = true := by simp [bne, p16]
          have p5 : (t.op == 5) = false := by simpa using o5
          have r5 : (t.op != 5) = true := by simp [bne, p5]
          have p6 : (t.op == 6) = false := by simpa using o6
          have r6 : (t.op != 6) = true := by simp [bne, p6]
          have p4 : (t.op == 4) = false := by simpa using o4
          have r4 : (t.op != 4) = true := by simp [bne, p4]
          have p10 : (t.op == 10) = false := by simpa using o10
          have r10 : (t.op != 10) = true := by simp [bne, p10]
          have p11 : (t.op == 11) = false := by simpa using o11
          have r11 : (t.op != 11) = true := by simp [bne, p11]
          have p12 : (t.op == 12) = false := by simpa using o12
          have r12 : (t.op != 12) = true := by simp [bne, p12]
          have p13 : (t.op == 13) = false := by simpa using o13
          have r13 : (t.op != 13) = true := by simp [bne, p13]
          have p14 : (t.op == 14) = false := by simpa using o14
          have r14 : (t.op != 14) = true := by simp [bne, p14]
          have p9 : (t.op == 9) = false := by simpa using o9
          have r9 : (t.op != 9) = true := by simp [bne, p9]
          have p15 : (t.op == 15) = false := by simpa using o15
          have r15 : (t.op != 15) = true := by simp [bne, p15]
          have p7 : (t.op == 7) = false := by simpa using o7
          have r7 : (t.op != 7) = true := by simp [bne, p7]
          clear o1
          clear o2
          clear o3
          clear o16
          clear o5
          clear o6
          clear o4
          clear o10
          clear o11
          clear o12
          clear o13
          clear o14
          clear o9
          clear o15
          clear o7
          go_enter Tryz.func31, Tryz.ntmps31
          go_wp2_with fail
          go_quiet (fail)
          go_wp2_with fail
          go_ret
          first | exact ⟨ret_bool (hx.out.symm), E.out.trans (B7.out.mono E.out.size)⟩ | exact ⟨ret_bool (hx.out.symm), E.out.trans (B8.out.mono E.out.size)⟩ | exact ⟨ret_bool (hx.out.symm), E.out.trans (B9.out.mono E.out.size)⟩ | exact ⟨ret_bool (hx.out.symm), E.out⟩ | exact ⟨ret_bool (hx.out.symm), belowN E.out _⟩ | exact ⟨ret_bool (hx.out.symm), (belowN E.out _).drew⟩ | exact ⟨ret_bool (hx.out.symm), (Below.refl _ _).alloc (Nat.le_refl _) _⟩ | exact ⟨ret_bool (hx.out.symm), belowN ((Below.refl _ _).alloc (Nat.le_refl _) _) _⟩

end Go.Proofs.YtgbcdfeflgnogaaGreat

/- Expressions that are tidy, in the program. Conditions: none. -/
namespace Go.Proofs.YtgbcdfeflgnogaaGreat
open Go.RowKit
set_option linter.unusedVariables false
set_option linter.unusedSimpArgs false
set_option maxHeartbeats 40000000

theorem implExp (k : Nat) : ∀ (t : GNode) (A1 : Option Addr) (c1 : Nat) (w : World), t.bulk < k → GNode.At w (Lt w.heap.size) A1 c1 t →
    Calls Tryz.prog 31 #[.agg #[.int .i64 t.op, .int .i64 t.n, .string t.s, .string t.t, .slice A1 t.kids.length c1]] w fun e w' => e = .returned (.bool t.exp) ∧ Below w.heap.size w w' := by
  induction k with
  | zero => intro t A1 c1 w h; omega
  | succ k ih =>
    intro t A1 c1 w hk0 ht
    have hbe := t.bulk_eq
    have HKK : ∀ x ∈ t.kids, ∀ (A2 : Option Addr) (c2 : Nat) (w2 : World), GNode.At w2 (Lt w2.heap.size) A2 c2 x → Calls Tryz.prog 31 #[.agg #[.int .i64 x.op, .int .i64 x.n, .string x.s, .string x.t, .slice A2 x.kids.length c2]] w2 fun e w' => e = .returned (.bool x.exp) ∧ Below w2.heap.size w2 w' :=
      fun x hx A2 c2 w2 hx2 => ih x A2 c2 w2 (by have := bulkL_mem GNode.bulk t.kids x hx; omega) hx2
    have HK2 : ∀ y ∈ t.kids, ∀ (A2 : Option Addr) (c2 : Nat) (w2 : World), GNode.At w2 (Lt w2.heap.size) A2 c2 y → Calls Tryz.prog 57 #[.agg #[.int .i64 y.op, .int .i64 y.n, .string y.s, .string y.t, .slice A2 y.kids.length c2]] w2 fun e w' => e = .returned (.bool y.alt) ∧ Below w2.heap.size w2 w' :=
      fun y hy A2 c2 w2 hy2 => implAlt y A2 c2 w2 (fun x hx A3 c3 w3 hx3 => ih x A3 c3 w3 (by have := bulkL_mem GNode.bulk t.kids y hy; have := bulkL_mem GNode.bulk y.kids x hx; have := y.bulk_eq; omega) hx3) hy2
    by_cases o1 : t.op = 1
    · exact implExp_1 t A1 c1 w o1 HKK HK2 ht
    by_cases o2 : t.op = 2
    · exact implExp_2 t A1 c1 w o2 HKK HK2 ht
    by_cases o3 : t.op = 3
    · exact implExp_3 t A1 c1 w o3 HKK HK2 ht
    by_cases o16 : t.op = 16
    · exact implExp_16 t A1 c1 w o16 HKK HK2 ht
    by_cases o5 : t.op = 5
    · exact implExp_5 t A1 c1 w o5 HKK HK2 ht
    by_cases o6 : t.op = 6
    · exact implExp_6 t A1 c1 w o6 HKK HK2 ht
    by_cases o4 : t.op = 4
    · exact implExp_4 t A1 c1 w o4 HKK HK2 ht
    by_cases o10 : t.op = 10
    · exact implExp_10 t A1 c1 w o10 HKK HK2 ht
    by_cases o11 : t.op = 11
    · exact implExp_11 t A1 c1 w o11 HKK HK2 ht
    by_cases o12 : t.op = 12
    · exact implExp_12 t A1 c1 w o12 HKK HK2 ht
    by_cases o13 : t.op = 13
    · exact implExp_13 t A1 c1 w o13 HKK HK2 ht
    by_cases o14 : t.op = 14
    · exact implExp_14 t A1 c1 w o14 HKK HK2 ht
    by_cases o9 : t.op = 9
    · exact implExp_9 t A1 c1 w o9 HKK HK2 ht
    by_cases o15 : t.op = 15
    · exact implExp_15 t A1 c1 w o15 HKK HK2 ht
    by_cases o7 : t.op = 7
    · exact implExp_7 t A1 c1 w o7 HKK HK2 ht
    exact implExp_o t A1 c1 w o1 o2 o3 o16 o5 o6 o4 o10 o11 o12 o13 o14 o9 o15 o7 HKK HK2 ht

end Go.Proofs.YtgbcdfeflgnogaaGreat

/- slices.IndexFunc and slices.ContainsFunc at Data, with whatever predicate that only makes memory of its own. Conditions: none. -/
namespace Go.Proofs.YtgbcdfeflgnogaaGreat
open Go.RowKit
set_option linter.unusedVariables false
set_option linter.unusedSimpArgs false
set_option maxHeartbeats 400000

theorem indexFuncData (K : Nat) (hK : ∀ (args : Array Value) (w : World), (callFunc K args).run Tryz.prog w = .ok (.enter K args) w) (caps : Array Value) (p : GData → Bool) (l : List GData) (A : Option Addr) (c : Nat) (w : World) (hs : Sl w (Lt w.heap.size) 3 A c (l.map GData.toD))
    (H : ∀ x, x ∈ l → ∀ (A1 : Option Addr) (c1 : Nat) (w2 : World), Below w.heap.size w w2 → GData.At w2 (Lt w2.heap.size) A1 c1 x →
      Calls Tryz.prog K (#[.agg #[.string x.name, .int .i64 x.vars, .slice A1 x.cons.length c1]] ++ caps) w2 fun e w' => e = .returned (.bool (p x)) ∧ Below w2.heap.size w2 w') :
    Calls Tryz.prog 58 #[.slice A l.length c, .func (.func K) #[] caps] w fun e w' => e = .returned (.int .i64 (idxI p l)) ∧ Below w.heap.size w w' := by
  have hlen : l.length ≤ 9223372036854775807 := by simpa using hs.len
  have HH := Lib.hid H
  clear H
  go_enter Tryz.func58, Tryz.ntmps58
  go_wp2_with fail
  go_loopw [8] (fun i wr => ∃ j : Nat, j ≤ l.length ∧ i = .int .i64 j ∧ noneTo p l j ∧ Below w.heap.size w wr) (fun i _ => l.length - (intOf i).toNat)
  case atStart => exact ⟨0, by omega, by go_num, noneTo_zero p l, Below.refl _ _⟩
  case round =>
    obtain ⟨j, hj, rfl, hno, hbl⟩ := hrel
    have Hno := Lib.hid hno
    clear hno
    have hsz := hbl.size
    by_cases hlt : j < l.length
    · have htr := GData.elem (hs.below hbl (Nat.le_refl _)) j hlt
      obtain ⟨b, off, A1, c1, rfl, hSb, g0, g1, g2, hat⟩ := htr
      have hmem : l[j] ∈ l := List.getElem_mem hlt
      go_wp2_with fail
      refine (HH.out _ hmem _ _ _ hbl (hat.below (Below.refl _ _) hsz)).mono ?_
      rintro e w1 ⟨rfl, hb1⟩
      cases he : p l[j]
      · have hn := Lib.hid (noneTo_succ Hno.out hlt he)
        go_wp2_with fail
        go_roundw
        case rel => exact ⟨j + 1, by omega, by go_num, hn.out, hbl.trans (hb1.mono hsz)⟩
        case measure => simp [intOf]; omega
      · have hn := Lib.hid (idxI_at Hno.out hlt he)
        go_wp2_with fail
        go_ret
        exact ⟨ret_int hn.out.symm, hbl.trans (hb1.mono hsz)⟩
    · have hjl : j = l.length := by omega
      have Hj := Lib.hid hjl
      clear hjl
      go_wp2_with fail
      go_ret
      exact ⟨ret_int (idxI_none (by have := Hno.out; rw [Hj.out] at this; exact this)).symm, hbl⟩

theorem containsFuncData (K : Nat) (hK : ∀ (args : Array Value) (w : World), (callFunc K args).run Tryz.prog w = .ok (.enter K args) w) (caps : Array Value) (p : GData → Bool) (l : List GData) (A : Option Addr) (c : Nat) (w : World) (hs : Sl w (Lt w.heap.size) 3 A c (l.map GData.toD))
    (H : ∀ x, x ∈ l → ∀ (A1 : Option Addr) (c1 : Nat) (w2 : World), Below w.heap.size w w2 → GData.At w2 (Lt w2.heap.size) A1 c1 x →
      Calls Tryz.prog K (#[.agg #[.string x.name, .int .i64 x.vars, .slice A1 x.cons.length c1]] ++ caps) w2 fun e w' => e = .returned (.bool (p x)) ∧ Below w2.heap.size w2 w') :
    Calls Tryz.prog 32 #[.slice A l.length c, .func (.func K) #[] caps] w fun e w' => e = .returned (.bool (l.any p)) ∧ Below w.heap.size w w' := by
  have HH := Lib.hid H
  clear H
  go_enter Tryz.func32, Tryz.ntmps32
  go_wp2_with fail
  refine (indexFuncData K hK caps p l A c w hs HH.out).mono ?_
  rintro e w1 ⟨rfl, hb1⟩
  cases ha : l.any p
  · have hi := idxI_any_false ha
    rw [hi]
    have Ha := Lib.hid ha
    clear ha hi
    go_wp2_with fail
    go_ret
    exact ⟨ret_bool Ha.out.symm, hb1⟩
  · have hi := idxI_any_true ha
    have Ha := Lib.hid ha
    clear ha
    generalize idxI p l = x at *
    go_wp2_with fail
    go_ret
    exact ⟨ret_bool Ha.out.symm, hb1⟩

end Go.Proofs.YtgbcdfeflgnogaaGreat
