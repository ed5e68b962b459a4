/- Expressions that are tidy, in the program (1). Conditions: none. -/
import Derived.Test.YtgbcdfeflgnogaaNodeC
import Derived.Deep.RegionLaw
import Derived.Deep.DeepMust
import Derived.Deep.RegionHeld3
namespace Go.Proofs.Ytgbcdfeflgnogaa
open Go.RowKit
set_option linter.unusedVariables false
set_option linter.unusedSimpArgs false
set_option maxHeartbeats 40000000

set_option maxRecDepth 20000 in
theorem implExp_1 (t : GNode) (A1 : Option Addr) (c1 : Nat) (w : World) (o1 : t.op = 1)
    (HKK : ∀ x ∈ t.kids, ∀ (A2 : Option Addr) (c2 : Nat) (w2 : World), GNode.At w2 (Lt w2.heap.size) A2 c2 x → Calls Try.prog 105 #[.agg #[.int .i64 x.op, .int .i64 x.n, .string x.s, .string x.t, .slice A2 x.kids.length c2]] w2 fun e w' => e = .returned (.bool x.exp) ∧ Below w2.heap.size w2 w')
    (HK2 : ∀ y ∈ t.kids, ∀ (A2 : Option Addr) (c2 : Nat) (w2 : World), GNode.At w2 (Lt w2.heap.size) A2 c2 y → Calls Try.prog 197 #[.agg #[.int .i64 y.op, .int .i64 y.n, .string y.s, .string y.t, .slice A2 y.kids.length c2]] w2 fun e w' => e = .returned (.bool y.alt) ∧ Below w2.heap.size w2 w')
    (ht : GNode.At w (Lt w.heap.size) A1 c1 t) :
    Calls Try.prog 105 #[.agg #[.int .i64 t.op, .int .i64 t.n, .string t.s, .string t.t, .slice A1 t.kids.length c1]] w fun e w' => e = .returned (.bool t.exp) ∧ Below w.heap.size w w' := by
    obtain ⟨h0, h1, h2, h3, hs⟩ := id ht
    have hsz2 : t.s.size ≤ 9223372036854775807 := by unfold maxLen at h2; omega
    have hsz3 : t.t.size ≤ 9223372036854775807 := by unfold maxLen at h3; omega
    have hlen : t.kids.length ≤ 9223372036854775807 := by simpa using hs.len
    have hte := Lib.hid t.exp_eq
    obtain ⟨w0, e0⟩ : ∃ w0, w0 = w.alloc (.cells #[.int .i64 t.op, .int .i64 t.n, .string t.s, .string t.t, .slice A1 t.kids.length c1] 49) := ⟨_, rfl⟩
    have E := Lib.hid (show Below w.heap.size w w0 by rw [e0]; exact (Below.refl _ _).alloc (Nat.le_refl _) _)
    have R := Lib.hid (show Row w0 w.heap.size 49 #[.int .i64 t.op, .int .i64 t.n, .string t.s, .string t.t, .slice A1 t.kids.length c1] by rw [e0]; exact Row.new' _ _ _ rfl)
    have EQ := Lib.hid e0
    have HAN := Lib.hid (fun (wx : World) (hb : Below w0.heap.size w0 wx) => implAllNodes 105 (enters Try.func105 (by kernel_rfl) (by kernel_rfl)) #[] GNode.exp t.kids A1 c1 wx (hs.below (E.out.trans (hb.mono E.out.size)) (Nat.le_trans E.out.size hb.size)) (fun x hx A2 c2 w2 _ hx2 => HKK x hx A2 c2 w2 hx2))
    have HKH := Lib.hid HKK
    have HAL := Lib.hid HK2
    have HSS := Lib.hid hs
    have hc0 := fun i => R.out.cell i
    clear HKK HK2 e0 h0 h1 h2 h3 hs ht
    cases v : (inB t.n 0 1073741823)
    · skip
      have hv := Lib.hid (show exp1 t.op t.n t.s t.t t.kids.length = false from by unfold exp1; simp [o1, v])
      have hx := Lib.hid (show t.exp = false by rw [hte.out, hv.out]; rfl)
      have p1 : (t.op == 1) = true := by rw [o1]; rfl
      have r1 : (t.op != 1) = false := by rw [o1]; rfl
      have p2 : (t.op == 2) = false := by rw [o1]; rfl
      have r2 : (t.op != 2) = true := by rw [o1]; rfl
      have p3 : (t.op == 3) = false := by rw [o1]; rfl
      have r3 : (t.op != 3) = true := by rw [o1]; rfl
      have p16 : (t.op == 16) = false := by rw [o1]; rfl
      have r16 : (t.op != 16) = true := by rw [o1]; rfl
      have p5 : (t.op == 5) = false := by rw [o1]; rfl
      have r5 : (t.op != 5) = true := by rw [o1]; rfl
      have p6 : (t.op == 6) = false := by rw [o1]; rfl
      have r6 : (t.op != 6) = true := by rw [o1]; rfl
      have p4 : (t.op == 4) = false := by rw [o1]; rfl
      have r4 : (t.op != 4) = true := by rw [o1]; rfl
      have p10 : (t.op == 10) = false := by rw [o1]; rfl
      have r10 : (t.op != 10) = true := by rw [o1]; rfl
      have p11 : (t.op == 11) = false := by rw [o1]; rfl
      have r11 : (t.op != 11) = true := by rw [o1]; rfl
      have p12 : (t.op == 12) = false := by rw [o1]; rfl
      have r12 : (t.op != 12) = true := by rw [o1]; rfl
      have p13 : (t.op == 13) = false := by rw [o1]; rfl
      have r13 : (t.op != 13) = true := by rw [o1]; rfl
      have p14 : (t.op == 14) = false := by rw [o1]; rfl
      have r14 : (t.op != 14) = true := by rw [o1]; rfl
      have p9 : (t.op == 9) = false := by rw [o1]; rfl
      have r9 : (t.op != 9) = true := by rw [o1]; rfl
      have p15 : (t.op == 15) = false := by rw [o1]; rfl
      have r15 : (t.op != 15) = true := by rw [o1]; rfl
      have p7 : (t.op == 7) = false := by rw [o1]; rfl
      have r7 : (t.op != 7) = true := by rw [o1]; rfl
      clear o1
      have HIN := Lib.hid (fun (wx : World) => implWithin t.n 0 1073741823 wx)
      rw [v] at HIN
      clear v
      go_enter Try.func105, Try.ntmps105
      go_wp2_with fail
      go_quiet (fail)
      go_wp2_with (first | (go_at_call 193; (try rw [← EQ.out]); refine (HIN.out _).mono ?_; rintro e w6 ⟨rfl, rfl⟩))
      go_ret
      first | exact ⟨ret_bool (hx.out.symm), E.out.trans (B7.out.mono E.out.size)⟩ | exact ⟨ret_bool (hx.out.symm), E.out.trans (B8.out.mono E.out.size)⟩ | exact ⟨ret_bool (hx.out.symm), E.out.trans (B9.out.mono E.out.size)⟩ | exact ⟨ret_bool (hx.out.symm), E.out⟩ | exact ⟨ret_bool (hx.out.symm), belowN E.out _⟩ | exact ⟨ret_bool (hx.out.symm), (belowN E.out _).drew⟩ | exact ⟨ret_bool (hx.out.symm), (Below.refl _ _).alloc (Nat.le_refl _) _⟩ | exact ⟨ret_bool (hx.out.symm), belowN ((Below.refl _ _).alloc (Nat.le_refl _) _) _⟩
    · skip
      cases b : (t.s.toList.isEmpty)
      · skip
        have hv := Lib.hid (show exp1 t.op t.n t.s t.t t.kids.length = false from by unfold exp1; simp [o1, v, b])
        have hx := Lib.hid (show t.exp = false by rw [hte.out, hv.out]; rfl)
        have p1 : (t.op == 1) = true := by rw [o1]; rfl
        have r1 : (t.op != 1) = false := by rw [o1]; rfl
        have p2 : (t.op == 2) = false := by rw [o1]; rfl
        have r2 : (t.op != 2) = true := by rw [o1]; rfl
        have p3 : (t.op == 3) = false := by rw [o1]; rfl
        have r3 : (t.op != 3) = true := by rw [o1]; rfl
        have p16 : (t.op == 16) = false := by rw [o1]; rfl
        have r16 : (t.op != 16) = true := by rw [o1]; rfl
        have p5 : (t.op == 5) = false := by rw [o1]; rfl
        have r5 : (t.op != 5) = true := by rw [o1]; rfl
        have p6 : (t.op == 6) = false := by rw [o1]; rfl
        have r6 : (t.op != 6) = true := by rw [o1]; rfl
        have p4 : (t.op == 4) = false := by rw [o1]; rfl
        have r4 : (t.op != 4) = true := by rw [o1]; rfl
        have p10 : (t.op == 10) = false := by rw [o1]; rfl
        have r10 : (t.op != 10) = true := by rw [o1]; rfl
        have p11 : (t.op == 11) = false := by rw [o1]; rfl
        have r11 : (t.op != 11) = true := by rw [o1]; rfl
        have p12 : (t.op == 12) = false := by rw [o1]; rfl
        have r12 : (t.op != 12) = true := by rw [o1]; rfl
        have p13 : (t.op == 13) = false := by rw [o1]; rfl
        have r13 : (t.op != 13) = true := by rw [o1]; rfl
        have p14 : (t.op == 14) = false := by rw [o1]; rfl
        have r14 : (t.op != 14) = true := by rw [o1]; rfl
        have p9 : (t.op == 9) = false := by rw [o1]; rfl
        have r9 : (t.op != 9) = true := by rw [o1]; rfl
        have p15 : (t.op == 15) = false := by rw [o1]; rfl
        have r15 : (t.op != 15) = true := by rw [o1]; rfl
        have p7 : (t.op == 7) = false := by rw [o1]; rfl
        have r7 : (t.op != 7) = true := by rw [o1]; rfl
        clear o1
        have HIN := Lib.hid (fun (wx : World) => implWithin t.n 0 1073741823 wx)
        rw [v] at HIN
        clear v
        go_enter Try.func105, Try.ntmps105
        go_wp2_with fail
        go_quiet (fail)
        go_wp2_with (first | (go_at_call 193; (try rw [← EQ.out]); refine (HIN.out _).mono ?_; rintro e w6 ⟨rfl, rfl⟩))
        go_ret
        first | exact ⟨ret_bool (hx.out.symm), E.out.trans (B7.out.mono E.out.size)⟩ | exact ⟨ret_bool (hx.out.symm), E.out.trans (B8.out.mono E.out.size)⟩ | exact ⟨ret_bool (hx.out.symm), E.out.trans (B9.out.mono E.out.size)⟩ | exact ⟨ret_bool (hx.out.symm), E.out⟩ | exact ⟨ret_bool (hx.out.symm), belowN E.out _⟩ | exact ⟨ret_bool (hx.out.symm), (belowN E.out _).drew⟩ | exact ⟨ret_bool (hx.out.symm), (Below.refl _ _).alloc (Nat.le_refl _) _⟩ | exact ⟨ret_bool (hx.out.symm), belowN ((Below.refl _ _).alloc (Nat.le_refl _) _) _⟩
      · skip
        cases te : (t.t.toList.isEmpty)
        · skip
          have hv := Lib.hid (show exp1 t.op t.n t.s t.t t.kids.length = false from by unfold exp1; simp [o1, v, b, te])
          have hx := Lib.hid (show t.exp = false by rw [hte.out, hv.out]; rfl)
          have p1 : (t.op == 1) = true := by rw [o1]; rfl
          have r1 : (t.op != 1) = false := by rw [o1]; rfl
          have p2 : (t.op == 2) = false := by rw [o1]; rfl
          have r2 : (t.op != 2) = true := by rw [o1]; rfl
          have p3 : (t.op == 3) = false := by rw [o1]; rfl
          have r3 : (t.op != 3) = true := by rw [o1]; rfl
          have p16 : (t.op == 16) = false := by rw [o1]; rfl
          have r16 : (t.op != 16) = true := by rw [o1]; rfl
          have p5 : (t.op == 5) = false := by rw [o1]; rfl
          have r5 : (t.op != 5) = true := by rw [o1]; rfl
          have p6 : (t.op == 6) = false := by rw [o1]; rfl
          have r6 : (t.op != 6) = true := by rw [o1]; rfl
          have p4 : (t.op == 4) = false := by rw [o1]; rfl
          have r4 : (t.op != 4) = true := by rw [o1]; rfl
          have p10 : (t.op == 10) = false := by rw [o1]; rfl
          have r10 : (t.op != 10) = true := by rw [o1]; rfl
          have p11 : (t.op == 11) = false := by rw [o1]; rfl
          have r11 : (t.op != 11) = true := by rw [o1]; rfl
          have p12 : (t.op == 12) = false := by rw [o1]; rfl
          have r12 : (t.op != 12) = true := by rw [o1]; rfl
          have p13 : (t.op == 13) = false := by rw [o1]; rfl
          have r13 : (t.op != 13) = true := by rw [o1]; rfl
          have p14 : (t.op == 14) = false := by rw [o1]; rfl
          have r14 : (t.op != 14) = true := by rw [o1]; rfl
          have p9 : (t.op == 9) = false := by rw [o1]; rfl
          have r9 : (t.op != 9) = true := by rw [o1]; rfl
          have p15 : (t.op == 15) = false := by rw [o1]; rfl
          have r15 : (t.op != 15) = true := by rw [o1]; rfl
          have p7 : (t.op == 7) = false := by rw [o1]; rfl
          have r7 : (t.op != 7) = true := by rw [o1]; rfl
          clear o1
          have HIN := Lib.hid (fun (wx : World) => implWithin t.n 0 1073741823 wx)
          rw [v] at HIN
          clear v
          go_enter Try.func105, Try.ntmps105
          go_wp2_with fail
          go_quiet (fail)
          go_wp2_with (first | (go_at_call 193; (try rw [← EQ.out]); refine (HIN.out _).mono ?_; rintro e w6 ⟨rfl, rfl⟩))
          go_ret
          first | exact ⟨ret_bool (hx.out.symm), E.out.trans (B7.out.mono E.out.size)⟩ | exact ⟨ret_bool (hx.out.symm), E.out.trans (B8.out.mono E.out.size)⟩ | exact ⟨ret_bool (hx.out.symm), E.out.trans (B9.out.mono E.out.size)⟩ | exact ⟨ret_bool (hx.out.symm), E.out⟩ | exact ⟨ret_bool (hx.out.symm), belowN E.out _⟩ | exact ⟨ret_bool (hx.out.symm), (belowN E.out _).drew⟩ | exact ⟨ret_bool (hx.out.symm), (Below.refl _ _).alloc (Nat.le_refl _) _⟩ | exact ⟨ret_bool (hx.out.symm), belowN ((Below.refl _ _).alloc (Nat.le_refl _) _) _⟩
        · skip
          by_cases hk : t.kids.length = 0
          · skip
            have hv := Lib.hid (show exp1 t.op t.n t.s t.t t.kids.length = true from by unfold exp1; simp [o1, v, b, te, hk])
            have hx := Lib.hid (show t.exp = t.kids.all GNode.exp by rw [hte.out, hv.out, if_neg (by omega), GNode.expL_all]; rfl)
            have p1 : (t.op == 1) = true := by rw [o1]; rfl
            have r1 : (t.op != 1) = false := by rw [o1]; rfl
            have p2 : (t.op == 2) = false := by rw [o1]; rfl
            have r2 : (t.op != 2) = true := by rw [o1]; rfl
            have p3 : (t.op == 3) = false := by rw [o1]; rfl
            have r3 : (t.op != 3) = true := by rw [o1]; rfl
            have p16 : (t.op == 16) = false := by rw [o1]; rfl
            have r16 : (t.op != 16) = true := by rw [o1]; rfl
            have p5 : (t.op == 5) = false := by rw [o1]; rfl
            have r5 : (t.op != 5) = true := by rw [o1]; rfl
            have p6 : (t.op == 6) = false := by rw [o1]; rfl
            have r6 : (t.op != 6) = true := by rw [o1]; rfl
            have p4 : (t.op == 4) = false := by rw [o1]; rfl
            have r4 : (t.op != 4) = true := by rw [o1]; rfl
            have p10 : (t.op == 10) = false := by rw [o1]; rfl
            have r10 : (t.op != 10) = true := by rw [o1]; rfl
            have p11 : (t.op == 11) = false := by rw [o1]; rfl
            have r11 : (t.op != 11) = true := by rw [o1]; rfl
            have p12 : (t.op == 12) = false := by rw [o1]; rfl
            have r12 : (t.op != 12) = true := by rw [o1]; rfl
            have p13 : (t.op == 13) = false := by rw [o1]; rfl
            have r13 : (t.op != 13) = true := by rw [o1]; rfl
            have p14 : (t.op == 14) = false := by rw [o1]; rfl
            have r14 : (t.op != 14) = true := by rw [o1]; rfl
            have p9 : (t.op == 9) = false := by rw [o1]; rfl
            have r9 : (t.op != 9) = true := by rw [o1]; rfl
            have p15 : (t.op == 15) = false := by rw [o1]; rfl
            have r15 : (t.op != 15) = true := by rw [o1]; rfl
            have p7 : (t.op == 7) = false := by rw [o1]; rfl
            have r7 : (t.op != 7) = true := by rw [o1]; rfl
            clear o1
            have hk1 : (t.kids.length == 0) = true := by simp [hk]
            have hk2 : ((t.kids.length : Int) == 0) = true := by rw [beq_iff_eq]; omega
            have hk3 : ¬ (0 : Int) < (t.kids.length : Int) := by omega
            have hk4 : decide (0 < t.kids.length) = false := by simp [hk]
            have Hhk := Lib.hid hk
            clear hk
            have HIN := Lib.hid (fun (wx : World) => implWithin t.n 0 1073741823 wx)
            rw [v] at HIN
            clear v
            go_enter Try.func105, Try.ntmps105
            go_wp2_with fail
            go_quiet (fail)
            go_wp2_with (first | (go_at_call 193; (try rw [← EQ.out]); refine (HIN.out _).mono ?_; rintro e w6 ⟨rfl, rfl⟩) | (go_at_call 196; (try rw [← EQ.out]); refine (HAN.out _ (by first | exact B8.out | exact B9.out | exact Below.refl _ _ | exact belowN (Below.refl _ _) _ | exact (belowN (Below.refl _ _) _).drew)).mono ?_; rintro e w7 ⟨rfl, hb7⟩; have B7 : Hid (Below w0.heap.size w0 w7) := (by first | exact Lib.hid (B8.out.trans (hb7.mono B8.out.size)) | exact Lib.hid (B9.out.trans (hb7.mono B9.out.size)) | exact Lib.hid hb7 | exact Lib.hid ((belowN (Below.refl w0.heap.size w0) _).trans hb7) | exact Lib.hid (((belowN (Below.refl w0.heap.size w0) _).drew).trans hb7)); clear hb7))
            go_ret
            first | exact ⟨ret_bool (hx.out.symm), E.out.trans (B7.out.mono E.out.size)⟩ | exact ⟨ret_bool (hx.out.symm), E.out.trans (B8.out.mono E.out.size)⟩ | exact ⟨ret_bool (hx.out.symm), E.out.trans (B9.out.mono E.out.size)⟩ | exact ⟨ret_bool (hx.out.symm), E.out⟩ | exact ⟨ret_bool (hx.out.symm), belowN E.out _⟩ | exact ⟨ret_bool (hx.out.symm), (belowN E.out _).drew⟩ | exact ⟨ret_bool (hx.out.symm), (Below.refl _ _).alloc (Nat.le_refl _) _⟩ | exact ⟨ret_bool (hx.out.symm), belowN ((Below.refl _ _).alloc (Nat.le_refl _) _) _⟩
          · skip
            have hv := Lib.hid (show exp1 t.op t.n t.s t.t t.kids.length = false from by unfold exp1; simp [o1, v, b, te, hk])
            have hx := Lib.hid (show t.exp = false by rw [hte.out, hv.out]; rfl)
            have p1 : (t.op == 1) = true := by rw [o1]; rfl
            have r1 : (t.op != 1) = false := by rw [o1]; rfl
            have p2 : (t.op == 2) = false := by rw [o1]; rfl
            have r2 : (t.op != 2) = true := by rw [o1]; rfl
            have p3 : (t.op == 3) = false := by rw [o1]; rfl
            have r3 : (t.op != 3) = true := by rw [o1]; rfl
            have p16 : (t.op == 16) = false := by rw [o1]; rfl
            have r16 : (t.op != 16) = true := by rw [o1]; rfl
            have p5 : (t.op == 5) = false := by rw [o1]; rfl
            have r5 : (t.op != 5) = true := by rw [o1]; rfl
            have p6 : (t.op == 6) = false := by rw [o1]; rfl
            have r6 : (t.op != 6) = true := by rw [o1]; rfl
            have p4 : (t.op == 4) = false := by rw [o1]; rfl
            have r4 : (t.op != 4) = true := by rw [o1]; rfl
            have p10 : (t.op == 10) = false := by rw [o1]; rfl
            have r10 : (t.op != 10) = true := by rw [o1]; rfl
            have p11 : (t.op == 11) = false := by rw [o1]; rfl
            have r11 : (t.op != 11) = true := by rw [o1]; rfl
            have p12 : (t.op == 12) = false := by rw [o1]; rfl
            have r12 : (t.op != 12) = true := by rw [o1]; rfl
            have p13 : (t.op == 13) = false := by rw [o1]; rfl
            have r13 : (t.op != 13) = true := by rw [o1]; rfl
            have p14 : (t.op == 14) = false := by rw [o1]; rfl
            have r14 : (t.op != 14) = true := by rw [o1]; rfl
            have p9 : (t.op == 9) = false := by rw [o1]; rfl
            have r9 : (t.op != 9) = true := by rw [o1]; rfl
            have p15 : (t.op == 15) = false := by rw [o1]; rfl
            have r15 : (t.op != 15) = true := by rw [o1]; rfl
            have p7 : (t.op == 7) = false := by rw [o1]; rfl
            have r7 : (t.op != 7) = true := by rw [o1]; rfl
            clear o1
            have hk1 : (t.kids.length == 0) = false := by simp [hk]
            have hk2 : ((t.kids.length : Int) == 0) = false := by rw [beq_eq_false_iff_ne]; omega
            have hk3 : (0 : Int) < (t.kids.length : Int) := by omega
            have hk4 : decide (0 < t.kids.length) = true := decide_eq_true (by omega)
            have Hhk := Lib.hid hk
            clear hk
            have HIN := Lib.hid (fun (wx : World) => implWithin t.n 0 1073741823 wx)
            rw [v] at HIN
            clear v
            go_enter Try.func105, Try.ntmps105
            go_wp2_with fail
            go_quiet (fail)
            go_wp2_with (first | (go_at_call 193; (try rw [← EQ.out]); refine (HIN.out _).mono ?_; rintro e w6 ⟨rfl, rfl⟩))
            go_ret
            first | exact ⟨ret_bool (hx.out.symm), E.out.trans (B7.out.mono E.out.size)⟩ | exact ⟨ret_bool (hx.out.symm), E.out.trans (B8.out.mono E.out.size)⟩ | exact ⟨ret_bool (hx.out.symm), E.out.trans (B9.out.mono E.out.size)⟩ | exact ⟨ret_bool (hx.out.symm), E.out⟩ | exact ⟨ret_bool (hx.out.symm), belowN E.out _⟩ | exact ⟨ret_bool (hx.out.symm), (belowN E.out _).drew⟩ | exact ⟨ret_bool (hx.out.symm), (Below.refl _ _).alloc (Nat.le_refl _) _⟩ | exact ⟨ret_bool (hx.out.symm), belowN ((Below.refl _ _).alloc (Nat.le_refl _) _) _⟩

set_option maxRecDepth 20000 in
theorem implExp_2 (t : GNode) (A1 : Option Addr) (c1 : Nat) (w : World) (o2 : t.op = 2)
    (HKK : ∀ x ∈ t.kids, ∀ (A2 : Option Addr) (c2 : Nat) (w2 : World), GNode.At w2 (Lt w2.heap.size) A2 c2 x → Calls Try.prog 105 #[.agg #[.int .i64 x.op, .int .i64 x.n, .string x.s, .string x.t, .slice A2 x.kids.length c2]] w2 fun e w' => e = .returned (.bool x.exp) ∧ Below w2.heap.size w2 w')
    (HK2 : ∀ y ∈ t.kids, ∀ (A2 : Option Addr) (c2 : Nat) (w2 : World), GNode.At w2 (Lt w2.heap.size) A2 c2 y → Calls Try.prog 197 #[.agg #[.int .i64 y.op, .int .i64 y.n, .string y.s, .string y.t, .slice A2 y.kids.length c2]] w2 fun e w' => e = .returned (.bool y.alt) ∧ Below w2.heap.size w2 w')
    (ht : GNode.At w (Lt w.heap.size) A1 c1 t) :
    Calls Try.prog 105 #[.agg #[.int .i64 t.op, .int .i64 t.n, .string t.s, .string t.t, .slice A1 t.kids.length c1]] w fun e w' => e = .returned (.bool t.exp) ∧ Below w.heap.size w w' := by
    obtain ⟨h0, h1, h2, h3, hs⟩ := id ht
    have hsz2 : t.s.size ≤ 9223372036854775807 := by unfold maxLen at h2; omega
    have hsz3 : t.t.size ≤ 9223372036854775807 := by unfold maxLen at h3; omega
    have hlen : t.kids.length ≤ 9223372036854775807 := by simpa using hs.len
    have hte := Lib.hid t.exp_eq
    obtain ⟨w0, e0⟩ : ∃ w0, w0 = w.alloc (.cells #[.int .i64 t.op, .int .i64 t.n, .string t.s, .string t.t, .slice A1 t.kids.length c1] 49) := ⟨_, rfl⟩
    have E := Lib.hid (show Below w.heap.size w w0 by rw [e0]; exact (Below.refl _ _).alloc (Nat.le_refl _) _)
    have R := Lib.hid (show Row w0 w.heap.size 49 #[.int .i64 t.op, .int .i64 t.n, .string t.s, .string t.t, .slice A1 t.kids.length c1] by rw [e0]; exact Row.new' _ _ _ rfl)
    have EQ := Lib.hid e0
    have HAN := Lib.hid (fun (wx : World) (hb : Below w0.heap.size w0 wx) => implAllNodes 105 (enters Try.func105 (by kernel_rfl) (by kernel_rfl)) #[] GNode.exp t.kids A1 c1 wx (hs.below (E.out.trans (hb.mono E.out.size)) (Nat.le_trans E.out.size hb.size)) (fun x hx A2 c2 w2 _ hx2 => HKK x hx A2 c2 w2 hx2))
    have HKH := Lib.hid HKK
    have HAL := Lib.hid HK2
    have HSS := Lib.hid hs
    have hc0 := fun i => R.out.cell i
    clear HKK HK2 e0 h0 h1 h2 h3 hs ht
    cases nb : (nameB t.s)
    · skip
      cases a : (t.n == 0)
      · skip
        have hv := Lib.hid (show exp1 t.op t.n t.s t.t t.kids.length = false from by unfold exp1; simp [o2, nb, a])
        have hx := Lib.hid (show t.exp = false by rw [hte.out, hv.out]; rfl)
        have p1 : (t.op == 1) = false := by rw [o2]; rfl
        have r1 : (t.op != 1) = true := by rw [o2]; rfl
        have p2 : (t.op == 2) = true := by rw [o2]; rfl
        have r2 : (t.op != 2) = false := by rw [o2]; rfl
        have p3 : (t.op == 3) = false := by rw [o2]; rfl
        have r3 : (t.op != 3) = true := by rw [o2]; rfl
        have p16 : (t.op == 16) = false := by rw [o2]; rfl
        have r16 : (t.op != 16) = true := by rw [o2]; rfl
        have p5 : (t.op == 5) = false := by rw [o2]; rfl
        have r5 : (t.op != 5) = true := by rw [o2]; rfl
        have p6 : (t.op == 6) = false := by rw [o2]; rfl
        have r6 : (t.op != 6) = true := by rw [o2]; rfl
        have p4 : (t.op == 4) = false := by rw [o2]; rfl
        have r4 : (t.op != 4) = true := by rw [o2]; rfl
        have p10 : (t.op == 10) = false := by rw [o2]; rfl
        have r10 : (t.op != 10) = true := by rw [o2]; rfl
        have p11 : (t.op == 11) = false := by rw [o2]; rfl
        have r11 : (t.op != 11) = true := by rw [o2]; rfl
        have p12 : (t.op == 12) = false := by rw [o2]; rfl
        have r12 : (t.op != 12) = true := by rw [o2]; rfl
        have p13 : (t.op == 13) = false := by rw [o2]; rfl
        have r13 : (t.op != 13) = true := by rw [o2]; rfl
        have p14 : (t.op == 14) = false := by rw [o2]; rfl
        have r14 : (t.op != 14) = true := by rw [o2]; rfl
        have p9 : (t.op == 9) = false := by rw [o2]; rfl
        have r9 : (t.op != 9) = true := by rw [o2]; rfl
        have p15 : (t.op == 15) = false := by rw [o2]; rfl
        have r15 : (t.op != 15) = true := by rw [o2]; rfl
        have p7 : (t.op == 7) = false := by rw [o2]; rfl
        have r7 : (t.op != 7) = true := by rw [o2]; rfl
        clear o2
        have HNM := Lib.hid (fun (wx : World) => implNameOk t.s wx hsz2)
        rw [nb] at HNM
        clear nb
        go_enter Try.func105, Try.ntmps105
        go_wp2_with fail
        go_quiet (fail)
        go_wp2_with (first | (go_at_call 194; (try rw [← EQ.out]); refine (HNM.out _).mono ?_; rintro e w9 ⟨rfl, hb9⟩; have B9 : Hid (Below w0.heap.size w0 w9) := (by first | exact Lib.hid (B8.out.trans (hb9.mono B8.out.size)) | exact Lib.hid hb9 | exact Lib.hid (((belowN (Below.refl w0.heap.size w0) _).drew).trans hb9) | exact Lib.hid ((belowN (Below.refl w0.heap.size w0) _).trans hb9) | exact Lib.hid ((belowN (Below.refl w0.heap.size w0) _).trans (hb9.mono (belowN (Below.refl w0.heap.size w0) _).size)) | exact Lib.hid (B8.out.trans ((belowN (Below.refl w0.heap.size w8) _).trans (hb9.mono (Nat.le_trans B8.out.size (belowN (Below.refl w0.heap.size w8) _).size))))); have R9 := Lib.hid (R.out.below B9.out R.out.lt); have hc9 := fun i => R9.out.cell i; clear hb9))
        go_ret
        first | exact ⟨ret_bool (hx.out.symm), E.out.trans (B7.out.mono E.out.size)⟩ | exact ⟨ret_bool (hx.out.symm), E.out.trans (B8.out.mono E.out.size)⟩ | exact ⟨ret_bool (hx.out.symm), E.out.trans (B9.out.mono E.out.size)⟩ | exact ⟨ret_bool (hx.out.symm), E.out⟩ | exact ⟨ret_bool (hx.out.symm), belowN E.out _⟩ | exact ⟨ret_bool (hx.out.symm), (belowN E.out _).drew⟩ | exact ⟨ret_bool (hx.out.symm), (Below.refl _ _).alloc (Nat.le_refl _) _⟩ | exact ⟨ret_bool (hx.out.symm), belowN ((Below.refl _ _).alloc (Nat.le_refl _) _) _⟩
      · skip
        have hv := Lib.hid (show exp1 t.op t.n t.s t.t t.kids.length = false from by unfold exp1; simp [o2, nb, a])
        have hx := Lib.hid (show t.exp = false by rw [hte.out, hv.out]; rfl)
        have p1 : (t.op == 1) = false := by rw [o2]; rfl
        have r1 : (t.op != 1) = true := by rw [o2]; rfl
        have p2 : (t.op == 2) = true := by rw [o2]; rfl
        have r2 : (t.op != 2) = false := by rw [o2]; rfl
        have p3 : (t.op == 3) = false := by rw [o2]; rfl
        have r3 : (t.op != 3) = true := by rw [o2]; rfl
        have p16 : (t.op == 16) = false := by rw [o2]; rfl
        have r16 : (t.op != 16) = true := by rw [o2]; rfl
        have p5 : (t.op == 5) = false := by rw [o2]; rfl
        have r5 : (t.op != 5) = true := by rw [o2]; rfl
        have p6 : (t.op == 6) = false := by rw [o2]; rfl
        have r6 : (t.op != 6) = true := by rw [o2]; rfl
        have p4 : (t.op == 4) = false := by rw [o2]; rfl
        have r4 : (t.op != 4) = true := by rw [o2]; rfl
        have p10 : (t.op == 10) = false := by rw [o2]; rfl
        have r10 : (t.op != 10) = true := by rw [o2]; rfl
        have p11 : (t.op == 11) = false := by rw [o2]; rfl
        have r11 : (t.op != 11) = true := by rw [o2]; rfl
        have p12 : (t.op == 12) = false := by rw [o2]; rfl
        have r12 : (t.op != 12) = true := by rw [o2]; rfl
        have p13 : (t.op == 13) = false := by rw [o2]; rfl
        have r13 : (t.op != 13) = true := by rw [o2]; rfl
        have p14 : (t.op == 14) = false := by rw [o2]; rfl
        have r14 : (t.op != 14) = true := by rw [o2]; rfl
        have p9 : (t.op == 9) = false := by rw [o2]; rfl
        have r9 : (t.op != 9) = true := by rw [o2]; rfl
        have p15 : (t.op == 15) = false := by rw [o2]; rfl
        have r15 : (t.op != 15) = true := by rw [o2]; rfl
        have p7 : (t.op == 7) = false := by rw [o2]; rfl
        have r7 : (t.op != 7) = true := by rw [o2]; rfl
        clear o2
        have HNM := Lib.hid (fun (wx : World) => implNameOk t.s wx hsz2)
        rw [nb] at HNM
        clear nb
        go_enter Try.func105, Try.ntmps105
        go_wp2_with fail
        go_quiet (fail)
        go_wp2_with (first | (go_at_call 194; (try rw [← EQ.out]); refine (HNM.out _).mono ?_; rintro e w9 ⟨rfl, hb9⟩; have B9 : Hid (Below w0.heap.size w0 w9) := (by first | exact Lib.hid (B8.out.trans (hb9.mono B8.out.size)) | exact Lib.hid hb9 | exact Lib.hid (((belowN (Below.refl w0.heap.size w0) _).drew).trans hb9) | exact Lib.hid ((belowN (Below.refl w0.heap.size w0) _).trans hb9) | exact Lib.hid ((belowN (Below.refl w0.heap.size w0) _).trans (hb9.mono (belowN (Below.refl w0.heap.size w0) _).size)) | exact Lib.hid (B8.out.trans ((belowN (Below.refl w0.heap.size w8) _).trans (hb9.mono (Nat.le_trans B8.out.size (belowN (Below.refl w0.heap.size w8) _).size))))); have R9 := Lib.hid (R.out.below B9.out R.out.lt); have hc9 := fun i => R9.out.cell i; clear hb9))
        go_ret
        first | exact ⟨ret_bool (hx.out.symm), E.out.trans (B7.out.mono E.out.size)⟩ | exact ⟨ret_bool (hx.out.symm), E.out.trans (B8.out.mono E.out.size)⟩ | exact ⟨ret_bool (hx.out.symm), E.out.trans (B9.out.mono E.out.size)⟩ | exact ⟨ret_bool (hx.out.symm), E.out⟩ | exact ⟨ret_bool (hx.out.symm), belowN E.out _⟩ | exact ⟨ret_bool (hx.out.symm), (belowN E.out _).drew⟩ | exact ⟨ret_bool (hx.out.symm), (Below.refl _ _).alloc (Nat.le_refl _) _⟩ | exact ⟨ret_bool (hx.out.symm), belowN ((Below.refl _ _).alloc (Nat.le_refl _) _) _⟩
    · skip
      cases a : (t.n == 0)
      · skip
        have hv := Lib.hid (show exp1 t.op t.n t.s t.t t.kids.length = false from by unfold exp1; simp [o2, nb, a])
        have hx := Lib.hid (show t.exp = false by rw [hte.out, hv.out]; rfl)
        have p1 : (t.op == 1) = false := by rw [o2]; rfl
        have r1 : (t.op != 1) = true := by rw [o2]; rfl
        have p2 : (t.op == 2) = true := by rw [o2]; rfl
        have r2 : (t.op != 2) = false := by rw [o2]; rfl
        have p3 : (t.op == 3) = false := by rw [o2]; rfl
        have r3 : (t.op != 3) = true := by rw [o2]; rfl
        have p16 : (t.op == 16) = false := by rw [o2]; rfl
        have r16 : (t.op != 16) = true := by rw [o2]; rfl
        have p5 : (t.op == 5) = false := by rw [o2]; rfl
        have r5 : (t.op != 5) = true := by rw [o2]; rfl
        have p6 : (t.op == 6) = false := by rw [o2]; rfl
        have r6 : (t.op != 6) = true := by rw [o2]; rfl
        have p4 : (t.op == 4) = false := by rw [o2]; rfl
        have r4 : (t.op != 4) = true := by rw [o2]; rfl
        have p10 : (t.op == 10) = false := by rw [o2]; rfl
        have r10 : (t.op != 10) = true := by rw [o2]; rfl
        have p11 : (t.op == 11) = false := by rw [o2]; rfl
        have r11 : (t.op != 11) = true := by rw [o2]; rfl
        have p12 : (t.op == 12) = false := by rw [o2]; rfl
        have r12 : (t.op != 12) = true := by rw [o2]; rfl
        have p13 : (t.op == 13) = false := by rw [o2]; rfl
        have r13 : (t.op != 13) = true := by rw [o2]; rfl
        have p14 : (t.op == 14) = false := by rw [o2]; rfl
        have r14 : (t.op != 14) = true := by rw [o2]; rfl
        have p9 : (t.op == 9) = false := by rw [o2]; rfl
        have r9 : (t.op != 9) = true := by rw [o2]; rfl
        have p15 : (t.op == 15) = false := by rw [o2]; rfl
        have r15 : (t.op != 15) = true := by rw [o2]; rfl
        have p7 : (t.op == 7) = false := by rw [o2]; rfl
        have r7 : (t.op != 7) = true := by rw [o2]; rfl
        clear o2
        have HNM := Lib.hid (fun (wx : World) => implNameOk t.s wx hsz2)
        rw [nb] at HNM
        clear nb
        go_enter Try.func105, Try.ntmps105
        go_wp2_with fail
        go_quiet (fail)
        go_wp2_with (first | (go_at_call 194; (try rw [← EQ.out]); refine (HNM.out _).mono ?_; rintro e w9 ⟨rfl, hb9⟩; have B9 : Hid (Below w0.heap.size w0 w9) := (by first | exact Lib.hid (B8.out.trans (hb9.mono B8.out.size)) | exact Lib.hid hb9 | exact Lib.hid (((belowN (Below.refl w0.heap.size w0) _).drew).trans hb9) | exact Lib.hid ((belowN (Below.refl w0.heap.size w0) _).trans hb9) | exact Lib.hid ((belowN (Below.refl w0.heap.size w0) _).trans (hb9.mono (belowN (Below.refl w0.heap.size w0) _).size)) | exact Lib.hid (B8.out.trans ((belowN (Below.refl w0.heap.size w8) _).trans (hb9.mono (Nat.le_trans B8.out.size (belowN (Below.refl w0.heap.size w8) _).size))))); have R9 := Lib.hid (R.out.below B9.out R.out.lt); have hc9 := fun i => R9.out.cell i; clear hb9))
        go_ret
        first | exact ⟨ret_bool (hx.out.symm), E.out.trans (B7.out.mono E.out.size)⟩ | exact ⟨ret_bool (hx.out.symm), E.out.trans (B8.out.mono E.out.size)⟩ | exact ⟨ret_bool (hx.out.symm), E.out.trans (B9.out.mono E.out.size)⟩ | exact ⟨ret_bool (hx.out.symm), E.out⟩ | exact ⟨ret_bool (hx.out.symm), belowN E.out _⟩ | exact ⟨ret_bool (hx.out.symm), (belowN E.out _).drew⟩ | exact ⟨ret_bool (hx.out.symm), (Below.refl _ _).alloc (Nat.le_refl _) _⟩ | exact ⟨ret_bool (hx.out.symm), belowN ((Below.refl _ _).alloc (Nat.le_refl _) _) _⟩
      · skip
        cases te : (t.t.toList.isEmpty)
        · skip
          have hv := Lib.hid (show exp1 t.op t.n t.s t.t t.kids.length = false from by unfold exp1; simp [o2, nb, a, te])
          have hx := Lib.hid (show t.exp = false by rw [hte.out, hv.out]; rfl)
          have p1 : (t.op == 1) = false := by rw [o2]; rfl
          have r1 : (t.op != 1) = true := by rw [o2]; rfl
          have p2 : (t.op == 2) = true := by rw [o2]; rfl
          have r2 : (t.op != 2) = false := by rw [o2]; rfl
          have p3 : (t.op == 3) = false := by rw [o2]; rfl
          have r3 : (t.op != 3) = true := by rw [o2]; rfl
          have p16 : (t.op == 16) = false := by rw [o2]; rfl
          have r16 : (t.op != 16) = true := by rw [o2]; rfl
          have p5 : (t.op == 5) = false := by rw [o2]; rfl
          have r5 : (t.op != 5) = true := by rw [o2]; rfl
          have p6 : (t.op == 6) = false := by rw [o2]; rfl
          have r6 : (t.op != 6) = true := by rw [o2]; rfl
          have p4 : (t.op == 4) = false := by rw [o2]; rfl
          have r4 : (t.op != 4) = true := by rw [o2]; rfl
          have p10 : (t.op == 10) = false := by rw [o2]; rfl
          have r10 : (t.op != 10) = true := by rw [o2]; rfl
          have p11 : (t.op == 11) = false := by rw [o2]; rfl
          have r11 : (t.op != 11) = true := by rw [o2]; rfl
          have p12 : (t.op == 12) = false := by rw [o2]; rfl
          have r12 : (t.op != 12) = true := by rw [o2]; rfl
          have p13 : (t.op == 13) = false := by rw [o2]; rfl
          have r13 : (t.op != 13) = true := by rw [o2]; rfl
          have p14 : (t.op == 14) = false := by rw [o2]; rfl
          have r14 : (t.op != 14) = true := by rw [o2]; rfl
          have p9 : (t.op == 9) = false := by rw [o2]; rfl
          have r9 : (t.op != 9) = true := by rw [o2]; rfl
          have p15 : (t.op == 15) = false := by rw [o2]; rfl
          have r15 : (t.op != 15) = true := by rw [o2]; rfl
          have p7 : (t.op == 7) = false := by rw [o2]; rfl
          have r7 : (t.op != 7) = true := by rw [o2]; rfl
          clear o2
          have HNM := Lib.hid (fun (wx : World) => implNameOk t.s wx hsz2)
          rw [nb] at HNM
          clear nb
          go_enter Try.func105, Try.ntmps105
          go_wp2_with fail
          go_quiet (fail)
          go_wp2_with (first | (go_at_call 194; (try rw [← EQ.out]); refine (HNM.out _).mono ?_; rintro e w9 ⟨rfl, hb9⟩; have B9 : Hid (Below w0.heap.size w0 w9) := (by first | exact Lib.hid (B8.out.trans (hb9.mono B8.out.size)) | exact Lib.hid hb9 | exact Lib.hid (((belowN (Below.refl w0.heap.size w0) _).drew).trans hb9) | exact Lib.hid ((belowN (Below.refl w0.heap.size w0) _).trans hb9) | exact Lib.hid ((belowN (Below.refl w0.heap.size w0) _).trans (hb9.mono (belowN (Below.refl w0.heap.size w0) _).size)) | exact Lib.hid (B8.out.trans ((belowN (Below.refl w0.heap.size w8) _).trans (hb9.mono (Nat.le_trans B8.out.size (belowN (Below.refl w0.heap.size w8) _).size))))); have R9 := Lib.hid (R.out.below B9.out R.out.lt); have hc9 := fun i => R9.out.cell i; clear hb9))
          go_ret
          first | exact ⟨ret_bool (hx.out.symm), E.out.trans (B7.out.mono E.out.size)⟩ | exact ⟨ret_bool (hx.out.symm), E.out.trans (B8.out.mono E.out.size)⟩ | exact ⟨ret_bool (hx.out.symm), E.out.trans (B9.out.mono E.out.size)⟩ | exact ⟨ret_bool (hx.out.symm), E.out⟩ | exact ⟨ret_bool (hx.out.symm), belowN E.out _⟩ | exact ⟨ret_bool (hx.out.symm), (belowN E.out _).drew⟩ | exact ⟨ret_bool (hx.out.symm), (Below.refl _ _).alloc (Nat.le_refl _) _⟩ | exact ⟨ret_bool (hx.out.symm), belowN ((Below.refl _ _).alloc (Nat.le_refl _) _) _⟩
        · skip
          by_cases hk : t.kids.length = 0
          · skip
            have hv := Lib.hid (show exp1 t.op t.n t.s t.t t.kids.length = true from by unfold exp1; simp [o2, nb, a, te, hk])
            have hx := Lib.hid (show t.exp = t.kids.all GNode.exp by rw [hte.out, hv.out, if_neg (by omega), GNode.expL_all]; rfl)
            have p1 : (t.op == 1) = false := by rw [o2]; rfl
            have r1 : (t.op != 1) = true := by rw [o2]; rfl
            have p2 : (t.op == 2) = true := by rw [o2]; rfl
            have r2 : (t.op != 2) = false := by rw [o2]; rfl
            have p3 : (t.op == 3) = false := by rw [o2]; rfl
            have r3 : (t.op != 3) = true := by rw [o2]; rfl
            have p16 : (t.op == 16) = false := by rw [o2]; rfl
            have r16 : (t.op != 16) = true := by rw [o2]; rfl
            have p5 : (t.op == 5) = false := by rw [o2]; rfl
            have r5 : (t.op != 5) = true := by rw [o2]; rfl
            have p6 : (t.op == 6) = false := by rw [o2]; rfl
            have r6 : (t.op != 6) = true := by rw [o2]; rfl
            have p4 : (t.op == 4) = false := by rw [o2]; rfl
            have r4 : (t.op != 4) = true := by rw [o2]; rfl
            have p10 : (t.op == 10) = false := by rw [o2]; rfl
            have r10 : (t.op != 10) = true := by rw [o2]; rfl
            have p11 : (t.op == 11) = false := by rw [o2]; rfl
            have r11 : (t.op != 11) = true := by rw [o2]; rfl
            have p12 : (t.op == 12) = false := by rw [o2]; rfl
            have r12 : (t.op != 12) = true := by rw [o2]; rfl
            have p13 : (t.op == 13) = false := by rw [o2]; rfl
            have r13 : (t.op != 13) = true := by rw [o2]; rfl
            have p14 : (t.op == 14) = false := by rw [o2]; rfl
            have r14 : (t.op != 14) = true := by rw [o2]; rfl
            have p9 : (t.op == 9) = false := by rw [o2]; rfl
            have r9 : (t.op != 9) = true := by rw [o2]; rfl
            have p15 : (t.op == 15) = false := by rw [o2]; rfl
            have r15 : (t.op != 15) = true := by rw [o2]; rfl
            have p7 : (t.op == 7) = false := by rw [o2]; rfl
            have r7 : (t.op != 7) = true := by rw [o2]; rfl
            clear o2
            have hk1 : (t.kids.length == 0) = true := by simp [hk]
            have hk2 : ((t.kids.length : Int) == 0) = true := by rw [beq_iff_eq]; omega
            have hk3 : ¬ (0 : Int) < (t.kids.length : Int) := by omega
            have hk4 : decide (0 < t.kids.length) = false := by simp [hk]
            have Hhk := Lib.hid hk
            clear hk
            have HNM := Lib.hid (fun (wx : World) => implNameOk t.s wx hsz2)
            rw [nb] at HNM
            clear nb
            go_enter Try.func105, Try.ntmps105
            go_wp2_with fail
            go_quiet (fail)
            go_wp2_with (first | (go_at_call 194; (try rw [← EQ.out]); refine (HNM.out _).mono ?_; rintro e w9 ⟨rfl, hb9⟩; have B9 : Hid (Below w0.heap.size w0 w9) := (by first | exact Lib.hid (B8.out.trans (hb9.mono B8.out.size)) | exact Lib.hid hb9 | exact Lib.hid (((belowN (Below.refl w0.heap.size w0) _).drew).trans hb9) | exact Lib.hid ((belowN (Below.refl w0.heap.size w0) _).trans hb9) | exact Lib.hid ((belowN (Below.refl w0.heap.size w0) _).trans (hb9.mono (belowN (Below.refl w0.heap.size w0) _).size)) | exact Lib.hid (B8.out.trans ((belowN (Below.refl w0.heap.size w8) _).trans (hb9.mono (Nat.le_trans B8.out.size (belowN (Below.refl w0.heap.size w8) _).size))))); have R9 := Lib.hid (R.out.below B9.out R.out.lt); have hc9 := fun i => R9.out.cell i; clear hb9) | (go_at_call 196; (try rw [← EQ.out]); refine (HAN.out _ (by first | exact B8.out | exact B9.out | exact Below.refl _ _ | exact belowN (Below.refl _ _) _ | exact (belowN (Below.refl _ _) _).drew)).mono ?_; rintro e w7 ⟨rfl, hb7⟩; have B7 : Hid (Below w0.heap.size w0 w7) := (by first | exact Lib.hid (B8.out.trans (hb7.mono B8.out.size)) | exact Lib.hid (B9.out.trans (hb7.mono B9.out.size)) | exact Lib.hid hb7 | exact Lib.hid ((belowN (Below.refl w0.heap.size w0) _).trans hb7) | exact Lib.hid (((belowN (Below.refl w0.heap.size w0) _).drew).trans hb7)); clear hb7))
            go_ret
            first | exact ⟨ret_bool (hx.out.symm), E.out.trans (B7.out.mono E.out.size)⟩ | exact ⟨ret_bool (hx.out.symm), E.out.trans (B8.out.mono E.out.size)⟩ | exact ⟨ret_bool (hx.out.symm), E.out.trans (B9.out.mono E.out.size)⟩ | exact ⟨ret_bool (hx.out.symm), E.out⟩ | exact ⟨ret_bool (hx.out.symm), belowN E.out _⟩ | exact ⟨ret_bool (hx.out.symm), (belowN E.out _).drew⟩ | exact ⟨ret_bool (hx.out.symm), (Below.refl _ _).alloc (Nat.le_refl _) _⟩ | exact ⟨ret_bool (hx.out.symm), belowN ((Below.refl _ _).alloc (Nat.le_refl _) _) _⟩
          · skip
            have hv := Lib.hid (show exp1 t.op t.n t.s t.t t.kids.length = false from by unfold exp1; simp [o2, nb, a, te, hk])
            have hx := Lib.hid (show t.exp = false by rw [hte.out, hv.out]; rfl)
            have p1 : (t.op == 1) = false := by rw [o2]; rfl
            have r1 : (t.op != 1) = true := by rw [o2]; rfl
            have p2 : (t.op == 2) = true := by rw [o2]; rfl
            have r2 : (t.op != 2) = false := by rw [o2]; rfl
            have p3 : (t.op == 3) = false := by rw [o2]; rfl
            have r3 : (t.op != 3) = true := by rw [o2]; rfl
            have p16 : (t.op == 16) = false := by rw [o2]; rfl
            have r16 : (t.op != 16) = true := by rw [o2]; rfl
            have p5 : (t.op == 5) = false := by rw [o2]; rfl
            have r5 : (t.op != 5) = true := by rw [o2]; rfl
            have p6 : (t.op == 6) = false := by rw [o2]; rfl
            have r6 : (t.op != 6) = true := by rw [o2]; rfl
            have p4 : (t.op == 4) = false := by rw [o2]; rfl
            have r4 : (t.op != 4) = true := by rw [o2]; rfl
            have p10 : (t.op == 10) = false := by rw [o2]; rfl
            have r10 : (t.op != 10) = true := by rw [o2]; rfl
            have p11 : (t.op == 11) = false := by rw [o2]; rfl
            have r11 : (t.op != 11) = true := by rw [o2]; rfl
            have p12 : (t.op == 12) = false := by rw [o2]; rfl
            have r12 : (t.op != 12) = true := by rw [o2]; rfl
            have p13 : (t.op == 13) = false := by rw [o2]; rfl
            have r13 : (t.op != 13) = true := by rw [o2]; rfl
            have p14 : (t.op == 14) = false := by rw [o2]; rfl
            have r14 : (t.op != 14) = true := by rw [o2]; rfl
            have p9 : (t.op == 9) = false := by rw [o2]; rfl
            have r9 : (t.op != 9) = true := by rw [o2]; rfl
            have p15 : (t.op == 15) = false := by rw [o2]; rfl
            have r15 : (t.op != 15) = true := by rw [o2]; rfl
            have p7 : (t.op == 7) = false := by rw [o2]; rfl
            have r7 : (t.op != 7) = true := by rw [o2]; rfl
            clear o2
            have hk1 : (t.kids.length == 0) = false := by simp [hk]
            have hk2 : ((t.kids.length : Int) == 0) = false := by rw [beq_eq_false_iff_ne]; omega
            have hk3 : (0 : Int) < (t.kids.length : Int) := by omega
            have hk4 : decide (0 < t.kids.length) = true := decide_eq_true (by omega)
            have Hhk := Lib.hid hk
            clear hk
            have HNM := Lib.hid (fun (wx : World) => implNameOk t.s wx hsz2)
            rw [nb] at HNM
            clear nb
            go_enter Try.func105, Try.ntmps105
            go_wp2_with fail
            go_quiet (fail)
            go_wp2_with (first | (go_at_call 194; (try rw [← EQ.out]); refine (HNM.out _).mono ?_; rintro e w9 ⟨rfl, hb9⟩; have B9 : Hid (Below w0.heap.size w0 w9) := (by first | exact Lib.hid (B8.out.trans (hb9.mono B8.out.size)) | exact Lib.hid hb9 | exact Lib.hid (((belowN (Below.refl w0.heap.size w0) _).drew).trans hb9) | exact Lib.hid ((belowN (Below.refl w0.heap.size w0) _).trans hb9) | exact Lib.hid ((belowN (Below.refl w0.heap.size w0) _).trans (hb9.mono (belowN (Below.refl w0.heap.size w0) _).size)) | exact Lib.hid (B8.out.trans ((belowN (Below.refl w0.heap.size w8) _).trans (hb9.mono (Nat.le_trans B8.out.size (belowN (Below.refl w0.heap.size w8) _).size))))); have R9 := Lib.hid (R.out.below B9.out R.out.lt); have hc9 := fun i => R9.out.cell i; clear hb9))
            go_ret
            first | exact ⟨ret_bool (hx.out.symm), E.out.trans (B7.out.mono E.out.size)⟩ | exact ⟨ret_bool (hx.out.symm), E.out.trans (B8.out.mono E.out.size)⟩ | exact ⟨ret_bool (hx.out.symm), E.out.trans (B9.out.mono E.out.size)⟩ | exact ⟨ret_bool (hx.out.symm), E.out⟩ | exact ⟨ret_bool (hx.out.symm), belowN E.out _⟩ | exact ⟨ret_bool (hx.out.symm), (belowN E.out _).drew⟩ | exact ⟨ret_bool (hx.out.symm), (Below.refl _ _).alloc (Nat.le_refl _) _⟩ | exact ⟨ret_bool (hx.out.symm), belowN ((Below.refl _ _).alloc (Nat.le_refl _) _) _⟩

set_option maxRecDepth 20000 in
theorem implExp_3 (t : GNode) (A1 : Option Addr) (c1 : Nat) (w : World) (o3 : t.op = 3)
    (HKK : ∀ x ∈ t.kids, ∀ (A2 : Option Addr) (c2 : Nat) (w2 : World), GNode.At w2 (Lt w2.heap.size) A2 c2 x → Calls Try.prog 105 #[.agg #[.int .i64 x.op, .int .i64 x.n, .string x.s, .string x.t, .slice A2 x.kids.length c2]] w2 fun e w' => e = .returned (.bool x.exp) ∧ Below w2.heap.size w2 w')
    (HK2 : ∀ y ∈ t.kids, ∀ (A2 : Option Addr) (c2 : Nat) (w2 : World), GNode.At w2 (Lt w2.heap.size) A2 c2 y → Calls Try.prog 197 #[.agg #[.int .i64 y.op, .int .i64 y.n, .string y.s, .string y.t, .slice A2 y.kids.length c2]] w2 fun e w' => e = .returned (.bool y.alt) ∧ Below w2.heap.size w2 w')
    (ht : GNode.At w (Lt w.heap.size) A1 c1 t) :
    Calls Try.prog 105 #[.agg #[.int .i64 t.op, .int .i64 t.n, .string t.s, .string t.t, .slice A1 t.kids.length c1]] w fun e w' => e = .returned (.bool t.exp) ∧ Below w.heap.size w w' := by
    obtain ⟨h0, h1, h2, h3, hs⟩ := id ht
    have hsz2 : t.s.size ≤ 9223372036854775807 := by unfold maxLen at h2; omega
    have hsz3 : t.t.size ≤ 9223372036854775807 := by unfold maxLen at h3; omega
    have hlen : t.kids.length ≤ 9223372036854775807 := by simpa using hs.len
    have hte := Lib.hid t.exp_eq
    obtain ⟨w0, e0⟩ : ∃ w0, w0 = w.alloc (.cells #[.int .i64 t.op, .int .i64 t.n, .string t.s, .string t.t, .slice A1 t.kids.length c1] 49) := ⟨_, rfl⟩
    have E := Lib.hid (show Below w.heap.size w w0 by rw [e0]; exact (Below.refl _ _).alloc (Nat.le_refl _) _)
    have R := Lib.hid (show Row w0 w.heap.size 49 #[.int .i64 t.op, .int .i64 t.n, .string t.s, .string t.t, .slice A1 t.kids.length c1] by rw [e0]; exact Row.new' _ _ _ rfl)
    have EQ := Lib.hid e0
    have HAN := Lib.hid (fun (wx : World) (hb : Below w0.heap.size w0 wx) => implAllNodes 105 (enters Try.func105 (by kernel_rfl) (by kernel_rfl)) #[] GNode.exp t.kids A1 c1 wx (hs.below (E.out.trans (hb.mono E.out.size)) (Nat.le_trans E.out.size hb.size)) (fun x hx A2 c2 w2 _ hx2 => HKK x hx A2 c2 w2 hx2))
    have HKH := Lib.hid HKK
    have HAL := Lib.hid HK2
    have HSS := Lib.hid hs
    have hc0 := fun i => R.out.cell i
    clear HKK HK2 e0 h0 h1 h2 h3 hs ht
    cases nb : (nameB t.s)
    · skip
      cases a : (t.n == 0)
      · skip
        have hv := Lib.hid (show exp1 t.op t.n t.s t.t t.kids.length = false from by unfold exp1; simp [o3, nb, a])
        have hx := Lib.hid (show t.exp = false by rw [hte.out, hv.out]; rfl)
        have p1 : (t.op == 1) = false := by rw [o3]; rfl
        have r1 : (t.op != 1) = true := by rw [o3]; rfl
        have p2 : (t.op == 2) = false := by rw [o3]; rfl
        have r2 : (t.op != 2) = true := by rw [o3]; rfl
        have p3 : (t.op == 3) = true := by rw [o3]; rfl
        have r3 : (t.op != 3) = false := by rw [o3]; rfl
        have p16 : (t.op == 16) = false := by rw [o3]; rfl
        have r16 : (t.op != 16) = true := by rw [o3]; rfl
        have p5 : (t.op == 5) = false := by rw [o3]; rfl
        have r5 : (t.op != 5) = true := by rw [o3]; rfl
        have p6 : (t.op == 6) = false := by rw [o3]; rfl
        have r6 : (t.op != 6) = true := by rw [o3]; rfl
        have p4 : (t.op == 4) = false := by rw [o3]; rfl
        have r4 : (t.op != 4) = true := by rw [o3]; rfl
        have p10 : (t.op == 10) = false := by rw [o3]; rfl
        have r10 : (t.op != 10) = true := by rw [o3]; rfl
        have p11 : (t.op == 11) = false := by rw [o3]; rfl
        have r11 : (t.op != 11) = true := by rw [o3]; rfl
        have p12 : (t.op == 12) = false := by rw [o3]; rfl
        have r12 : (t.op != 12) = true := by rw [o3]; rfl
        have p13 : (t.op == 13) = false := by rw [o3]; rfl
        have r13 : (t.op != 13) = true := by rw [o3]; rfl
        have p14 : (t.op == 14) = false := by rw [o3]; rfl
        have r14 : (t.op != 14) = true := by rw [o3]; rfl
        have p9 : (t.op == 9) = false := by rw [o3]; rfl
        have r9 : (t.op != 9) = true := by rw [o3]; rfl
        have p15 : (t.op == 15) = false := by rw [o3]; rfl
        have r15 : (t.op != 15) = true := by rw [o3]; rfl
        have p7 : (t.op == 7) = false := by rw [o3]; rfl
        have r7 : (t.op != 7) = true := by rw [o3]; rfl
        clear o3
        have HNM := Lib.hid (fun (wx : World) => implNameOk t.s wx hsz2)
        rw [nb] at HNM
        clear nb
        go_enter Try.func105, Try.ntmps105
        go_wp2_with fail
        go_quiet (fail)
        go_wp2_with (first | (go_at_call 194; (try rw [← EQ.out]); refine (HNM.out _).mono ?_; rintro e w9 ⟨rfl, hb9⟩; have B9 : Hid (Below w0.heap.size w0 w9) := (by first | exact Lib.hid (B8.out.trans (hb9.mono B8.out.size)) | exact Lib.hid hb9 | exact Lib.hid (((belowN (Below.refl w0.heap.size w0) _).drew).trans hb9) | exact Lib.hid ((belowN (Below.refl w0.heap.size w0) _).trans hb9) | exact Lib.hid ((belowN (Below.refl w0.heap.size w0) _).trans (hb9.mono (belowN (Below.refl w0.heap.size w0) _).size)) | exact Lib.hid (B8.out.trans ((belowN (Below.refl w0.heap.size w8) _).trans (hb9.mono (Nat.le_trans B8.out.size (belowN (Below.refl w0.heap.size w8) _).size))))); have R9 := Lib.hid (R.out.below B9.out R.out.lt); have hc9 := fun i => R9.out.cell i; clear hb9))
        go_ret
        first | exact ⟨ret_bool (hx.out.symm), E.out.trans (B7.out.mono E.out.size)⟩ | exact ⟨ret_bool (hx.out.symm), E.out.trans (B8.out.mono E.out.size)⟩ | exact ⟨ret_bool (hx.out.symm), E.out.trans (B9.out.mono E.out.size)⟩ | exact ⟨ret_bool (hx.out.symm), E.out⟩ | exact ⟨ret_bool (hx.out.symm), belowN E.out _⟩ | exact ⟨ret_bool (hx.out.symm), (belowN E.out _).drew⟩ | exact ⟨ret_bool (hx.out.symm), (Below.refl _ _).alloc (Nat.le_refl _) _⟩ | exact ⟨ret_bool (hx.out.symm), belowN ((Below.refl _ _).alloc (Nat.le_refl _) _) _⟩
      · skip
        have hv := Lib.hid (show exp1 t.op t.n t.s t.t t.kids.length = false from by unfold exp1; simp [o3, nb, a])
        have hx := Lib.hid (show t.exp = false by rw [hte.out, hv.out]; rfl)
        have p1 : (t.op == 1) = false := by rw [o3]; rfl
        have r1 : (t.op != 1) = true := by rw [o3]; rfl
        have p2 : (t.op == 2) = false := by rw [o3]; rfl
        have r2 : (t.op != 2) = true := by rw [o3]; rfl
        have p3 : (t.op == 3) = true := by rw [o3]; rfl
        have r3 : (t.op != 3) = false := by rw [o3]; rfl
        have p16 : (t.op == 16) = false := by rw [o3]; rfl
        have r16 : (t.op != 16) = true := by rw [o3]; rfl
        have p5 : (t.op == 5) = false := by rw [o3]; rfl
        have r5 : (t.op != 5) = true := by rw [o3]; rfl
        have p6 : (t.op == 6) = false := by rw [o3]; rfl
        have r6 : (t.op != 6) = true := by rw [o3]; rfl
        have p4 : (t.op == 4) = false := by rw [o3]; rfl
        have r4 : (t.op != 4) = true := by rw [o3]; rfl
        have p10 : (t.op == 10) = false := by rw [o3]; rfl
        have r10 : (t.op != 10) = true := by rw [o3]; rfl
        have p11 : (t.op == 11) = false := by rw [o3]; rfl
        have r11 : (t.op != 11) = true := by rw [o3]; rfl
        have p12 : (t.op == 12) = false := by rw [o3]; rfl
        have r12 : (t.op != 12) = true := by rw [o3]; rfl
        have p13 : (t.op == 13) = false := by rw [o3]; rfl
        have r13 : (t.op != 13) = true := by rw [o3]; rfl
        have p14 : (t.op == 14) = false := by rw [o3]; rfl
        have r14 : (t.op != 14) = true := by rw [o3]; rfl
        have p9 : (t.op == 9) = false := by rw [o3]; rfl
        have r9 : (t.op != 9) = true := by rw [o3]; rfl
        have p15 : (t.op == 15) = false := by rw [o3]; rfl
        have r15 : (t.op != 15) = true := by rw [o3]; rfl
        have p7 : (t.op == 7) = false := by rw [o3]; rfl
        have r7 : (t.op != 7) = true := by rw [o3]; rfl
        clear o3
        have HNM := Lib.hid (fun (wx : World) => implNameOk t.s wx hsz2)
        rw [nb] at HNM
        clear nb
        go_enter Try.func105, Try.ntmps105
        go_wp2_with fail
        go_quiet (fail)
        go_wp2_with (first | (go_at_call 194; (try rw [← EQ.out]); refine (HNM.out _).mono ?_; rintro e w9 ⟨rfl, hb9⟩; have B9 : Hid (Below w0.heap.size w0 w9) := (by first | exact Lib.hid (B8.out.trans (hb9.mono B8.out.size)) | exact Lib.hid hb9 | exact Lib.hid (((belowN (Below.refl w0.heap.size w0) _).drew).trans hb9) | exact Lib.hid ((belowN (Below.refl w0.heap.size w0) _).trans hb9) | exact Lib.hid ((belowN (Below.refl w0.heap.size w0) _).trans (hb9.mono (belowN (Below.refl w0.heap.size w0) _).size)) | exact Lib.hid (B8.out.trans ((belowN (Below.refl w0.heap.size w8) _).trans (hb9.mono (Nat.le_trans B8.out.size (belowN (Below.refl w0.heap.size w8) _).size))))); have R9 := Lib.hid (R.out.below B9.out R.out.lt); have hc9 := fun i => R9.out.cell i; clear hb9))
        go_ret
        first | exact ⟨ret_bool (hx.out.symm), E.out.trans (B7.out.mono E.out.size)⟩ | exact ⟨ret_bool (hx.out.symm), E.out.trans (B8.out.mono E.out.size)⟩ | exact ⟨ret_bool (hx.out.symm), E.out.trans (B9.out.mono E.out.size)⟩ | exact ⟨ret_bool (hx.out.symm), E.out⟩ | exact ⟨ret_bool (hx.out.symm), belowN E.out _⟩ | exact ⟨ret_bool (hx.out.symm), (belowN E.out _).drew⟩ | exact ⟨ret_bool (hx.out.symm), (Below.refl _ _).alloc (Nat.le_refl _) _⟩ | exact ⟨ret_bool (hx.out.symm), belowN ((Below.refl _ _).alloc (Nat.le_refl _) _) _⟩
    · skip
      cases a : (t.n == 0)
      · skip
        have hv := Lib.hid (show exp1 t.op t.n t.s t.t t.kids.length = false from by unfold exp1; simp [o3, nb, a])
        have hx := Lib.hid (show t.exp = false by rw [hte.out, hv.out]; rfl)
        have p1 : (t.op == 1) = false := by rw [o3]; rfl
        have r1 : (t.op != 1) = true := by rw [o3]; rfl
        have p2 : (t.op == 2) = false := by rw [o3]; rfl
        have r2 : (t.op != 2) = true := by rw [o3]; rfl
        have p3 : (t.op == 3) = true := by rw [o3]; rfl
        have r3 : (t.op != 3) = false := by rw [o3]; rfl
        have p16 : (t.op == 16) = false := by rw [o3]; rfl
        have r16 : (t.op != 16) = true := by rw [o3]; rfl
        have p5 : (t.op == 5) = false := by rw [o3]; rfl
        have r5 : (t.op != 5) = true := by rw [o3]; rfl
        have p6 : (t.op == 6) = false := by rw [o3]; rfl
        have r6 : (t.op != 6) = true := by rw [o3]; rfl
        have p4 : (t.op == 4) = false := by rw [o3]; rfl
        have r4 : (t.op != 4) = true := by rw [o3]; rfl
        have p10 : (t.op == 10) = false := by rw [o3]; rfl
        have r10 : (t.op != 10) = true := by rw [o3]; rfl
        have p11 : (t.op == 11) = false := by rw [o3]; rfl
        have r11 : (t.op != 11) = true := by rw [o3]; rfl
        have p12 : (t.op == 12) = false := by rw [o3]; rfl
        have r12 : (t.op != 12) = true := by rw [o3]; rfl
        have p13 : (t.op == 13) = false := by rw [o3]; rfl
        have r13 : (t.op != 13) = true := by rw [o3]; rfl
        have p14 : (t.op == 14) = false := by rw [o3]; rfl
        have r14 : (t.op != 14) = true := by rw [o3]; rfl
        have p9 : (t.op == 9) = false := by rw [o3]; rfl
        have r9 : (t.op != 9) = true := by rw [o3]; rfl
        have p15 : (t.op == 15) = false := by rw [o3]; rfl
        have r15 : (t.op != 15) = true := by rw [o3]; rfl
        have p7 : (t.op == 7) = false := by rw [o3]; rfl
        have r7 : (t.op != 7) = true := by rw [o3]; rfl
        clear o3
        have HNM := Lib.hid (fun (wx : World) => implNameOk t.s wx hsz2)
        rw [nb] at HNM
        clear nb
        go_enter Try.func105, Try.ntmps105
        go_wp2_with fail
        go_quiet (fail)
        go_wp2_with (first | (go_at_call 194; (try rw [← EQ.out]); refine (HNM.out _).mono ?_; rintro e w9 ⟨rfl, hb9⟩; have B9 : Hid (Below w0.heap.size w0 w9) := (by first | exact Lib.hid (B8.out.trans (hb9.mono B8.out.size)) | exact Lib.hid hb9 | exact Lib.hid (((belowN (Below.refl w0.heap.size w0) _).drew).trans hb9) | exact Lib.hid ((belowN (Below.refl w0.heap.size w0) _).trans hb9) | exact Lib.hid ((belowN (Below.refl w0.heap.size w0) _).trans (hb9.mono (belowN (Below.refl w0.heap.size w0) _).size)) | exact Lib.hid (B8.out.trans ((belowN (Below.refl w0.heap.size w8) _).trans (hb9.mono (Nat.le_trans B8.out.size (belowN (Below.refl w0.heap.size w8) _).size))))); have R9 := Lib.hid (R.out.below B9.out R.out.lt); have hc9 := fun i => R9.out.cell i; clear hb9))
        go_ret
        first | exact ⟨ret_bool (hx.out.symm), E.out.trans (B7.out.mono E.out.size)⟩ | exact ⟨ret_bool (hx.out.symm), E.out.trans (B8.out.mono E.out.size)⟩ | exact ⟨ret_bool (hx.out.symm), E.out.trans (B9.out.mono E.out.size)⟩ | exact ⟨ret_bool (hx.out.symm), E.out⟩ | exact ⟨ret_bool (hx.out.symm), belowN E.out _⟩ | exact ⟨ret_bool (hx.out.symm), (belowN E.out _).drew⟩ | exact ⟨ret_bool (hx.out.symm), (Below.refl _ _).alloc (Nat.le_refl _) _⟩ | exact ⟨ret_bool (hx.out.symm), belowN ((Below.refl _ _).alloc (Nat.le_refl _) _) _⟩
      · skip
        cases te : (t.t.toList.isEmpty)
        · skip
          have hv := Lib.hid (show exp1 t.op t.n t.s t.t t.kids.length = false from by unfold exp1; simp [o3, nb, a, te])
          have hx := Lib.hid (show t.exp = false by rw [hte.out, hv.out]; rfl)
          have p1 : (t.op == 1) = false := by rw [o3]; rfl
          have r1 : (t.op != 1) = true := by rw [o3]; rfl
          have p2 : (t.op == 2) = false := by rw [o3]; rfl
          have r2 : (t.op != 2) = true := by rw [o3]; rfl
          have p3 : (t.op == 3) = true := by rw [o3]; rfl
          have r3 : (t.op != 3) = false := by rw [o3]; rfl
          have p16 : (t.op == 16) = false := by rw [o3]; rfl
          have r16 : (t.op != 16) = true := by rw [o3]; rfl
          have p5 : (t.op == 5) = false := by rw [o3]; rfl
          have r5 : (t.op != 5) = true := by rw [o3]; rfl
          have p6 : (t.op == 6) = false := by rw [o3]; rfl
          have r6 : (t.op != 6) = true := by rw [o3]; rfl
          have p4 : (t.op == 4) = false := by rw [o3]; rfl
          have r4 : (t.op != 4) = true := by rw [o3]; rfl
          have p10 : (t.op == 10) = false := by rw [o3]; rfl
          have r10 : (t.op != 10) = true := by rw [o3]; rfl
          have p11 : (t.op == 11) = false := by rw [o3]; rfl
          have r11 : (t.op != 11) = true := by rw [o3]; rfl
          have p12 : (t.op == 12) = false := by rw [o3]; rfl
          have r12 : (t.op != 12) = true := by rw [o3]; rfl
          have p13 : (t.op == 13) = false := by rw [o3]; rfl
          have r13 : (t.op != 13) = true := by rw [o3]; rfl
          have p14 : (t.op == 14) = false := by rw [o3]; rfl
          have r14 : (t.op != 14) = true := by rw [o3]; rfl
          have p9 : (t.op == 9) = false := by rw [o3]; rfl
          have r9 : (t.op != 9) = true := by rw [o3]; rfl
          have p15 : (t.op == 15) = false := by rw [o3]; rfl
          have r15 : (t.op != 15) = true := by rw [o3]; rfl
          have p7 : (t.op == 7) = false := by rw [o3]; rfl
          have r7 : (t.op != 7) = true := by rw [o3]; rfl
          clear o3
          have HNM := Lib.hid (fun (wx : World) => implNameOk t.s wx hsz2)
          rw [nb] at HNM
          clear nb
          go_enter Try.func105, Try.ntmps105
          go_wp2_with fail
          go_quiet (fail)
          go_wp2_with (first | (go_at_call 194; (try rw [← EQ.out]); refine (HNM.out _).mono ?_; rintro e w9 ⟨rfl, hb9⟩; have B9 : Hid (Below w0.heap.size w0 w9) := (by first | exact Lib.hid (B8.out.trans (hb9.mono B8.out.size)) | exact Lib.hid hb9 | exact Lib.hid (((belowN (Below.refl w0.heap.size w0) _).drew).trans hb9) | exact Lib.hid ((belowN (Below.refl w0.heap.size w0) _).trans hb9) | exact Lib.hid ((belowN (Below.refl w0.heap.size w0) _).trans (hb9.mono (belowN (Below.refl w0.heap.size w0) _).size)) | exact Lib.hid (B8.out.trans ((belowN (Below.refl w0.heap.size w8) _).trans (hb9.mono (Nat.le_trans B8.out.size (belowN (Below.refl w0.heap.size w8) _).size))))); have R9 := Lib.hid (R.out.below B9.out R.out.lt); have hc9 := fun i => R9.out.cell i; clear hb9))
          go_ret
          first | exact ⟨ret_bool (hx.out.symm), E.out.trans (B7.out.mono E.out.size)⟩ | exact ⟨ret_bool (hx.out.symm), E.out.trans (B8.out.mono E.out.size)⟩ | exact ⟨ret_bool (hx.out.symm), E.out.trans (B9.out.mono E.out.size)⟩ | exact ⟨ret_bool (hx.out.symm), E.out⟩ | exact ⟨ret_bool (hx.out.symm), belowN E.out _⟩ | exact ⟨ret_bool (hx.out.symm), (belowN E.out _).drew⟩ | exact ⟨ret_bool (hx.out.symm), (Below.refl _ _).alloc (Nat.le_refl _) _⟩ | exact ⟨ret_bool (hx.out.symm), belowN ((Below.refl _ _).alloc (Nat.le_refl _) _) _⟩
        · skip
          by_cases hk : t.kids.length = 1
          · skip
            have hv := Lib.hid (show exp1 t.op t.n t.s t.t t.kids.length = true from by unfold exp1; simp [o3, nb, a, te, hk])
            have hx := Lib.hid (show t.exp = t.kids.all GNode.exp by rw [hte.out, hv.out, if_neg (by omega), GNode.expL_all]; rfl)
            have p1 : (t.op == 1) = false := by rw [o3]; rfl
            have r1 : (t.op != 1) = true := by rw [o3]; rfl
            have p2 : (t.op == 2) = false := by rw [o3]; rfl
            have r2 : (t.op != 2) = true := by rw [o3]; rfl
            have p3 : (t.op == 3) = true := by rw [o3]; rfl
            have r3 : (t.op != 3) = false := by rw [o3]; rfl
            have p16 : (t.op == 16) = false := by rw [o3]; rfl
            have r16 : (t.op != 16) = true := by rw [o3]; rfl
            have p5 : (t.op == 5) = false := by rw [o3]; rfl
            have r5 : (t.op != 5) = true := by rw [o3]; rfl
            have p6 : (t.op == 6) = false := by rw [o3]; rfl
            have r6 : (t.op != 6) = true := by rw [o3]; rfl
            have p4 : (t.op == 4) = false := by rw [o3]; rfl
            have r4 : (t.op != 4) = true := by rw [o3]; rfl
            have p10 : (t.op == 10) = false := by rw [o3]; rfl
            have r10 : (t.op != 10) = true := by rw [o3]; rfl
            have p11 : (t.op == 11) = false := by rw [o3]; rfl
            have r11 : (t.op != 11) = true := by rw [o3]; rfl
            have p12 : (t.op == 12) = false := by rw [o3]; rfl
            have r12 : (t.op != 12) = true := by rw [o3]; rfl
            have p13 : (t.op == 13) = false := by rw [o3]; rfl
            have r13 : (t.op != 13) = true := by rw [o3]; rfl
            have p14 : (t.op == 14) = false := by rw [o3]; rfl
            have r14 : (t.op != 14) = true := by rw [o3]; rfl
            have p9 : (t.op == 9) = false := by rw [o3]; rfl
            have r9 : (t.op != 9) = true := by rw [o3]; rfl
            have p15 : (t.op == 15) = false := by rw [o3]; rfl
            have r15 : (t.op != 15) = true := by rw [o3]; rfl
            have p7 : (t.op == 7) = false := by rw [o3]; rfl
            have r7 : (t.op != 7) = true := by rw [o3]; rfl
            clear o3
            have hk1 : (t.kids.length == 1) = true := by simp [hk]
            have hk2 : ((t.kids.length : Int) == 1) = true := by rw [beq_iff_eq]; omega
            have Hhk := Lib.hid hk
            clear hk
            have HNM := Lib.hid (fun (wx : World) => implNameOk t.s wx hsz2)
            rw [nb] at HNM
            clear nb
            go_enter Try.func105, Try.ntmps105
            go_wp2_with fail
            go_quiet (fail)
            go_wp2_with (first | (go_at_call 194; (try rw [← EQ.out]); refine (HNM.out _).mono ?_; rintro e w9 ⟨rfl, hb9⟩; have B9 : Hid (Below w0.heap.size w0 w9) := (by first | exact Lib.hid (B8.out.trans (hb9.mono B8.out.size)) | exact Lib.hid hb9 | exact Lib.hid (((belowN (Below.refl w0.heap.size w0) _).drew).trans hb9) | exact Lib.hid ((belowN (Below.refl w0.heap.size w0) _).trans hb9) | exact Lib.hid ((belowN (Below.refl w0.heap.size w0) _).trans (hb9.mono (belowN (Below.refl w0.heap.size w0) _).size)) | exact Lib.hid (B8.out.trans ((belowN (Below.refl w0.heap.size w8) _).trans (hb9.mono (Nat.le_trans B8.out.size (belowN (Below.refl w0.heap.size w8) _).size))))); have R9 := Lib.hid (R.out.below B9.out R.out.lt); have hc9 := fun i => R9.out.cell i; clear hb9) | (go_at_call 196; (try rw [← EQ.out]); refine (HAN.out _ (by first | exact B8.out | exact B9.out | exact Below.refl _ _ | exact belowN (Below.refl _ _) _ | exact (belowN (Below.refl _ _) _).drew)).mono ?_; rintro e w7 ⟨rfl, hb7⟩; have B7 : Hid (Below w0.heap.size w0 w7) := (by first | exact Lib.hid (B8.out.trans (hb7.mono B8.out.size)) | exact Lib.hid (B9.out.trans (hb7.mono B9.out.size)) | exact Lib.hid hb7 | exact Lib.hid ((belowN (Below.refl w0.heap.size w0) _).trans hb7) | exact Lib.hid (((belowN (Below.refl w0.heap.size w0) _).drew).trans hb7)); clear hb7))
            go_ret
            first | exact ⟨ret_bool (hx.out.symm), E.out.trans (B7.out.mono E.out.size)⟩ | exact ⟨ret_bool (hx.out.symm), E.out.trans (B8.out.mono E.out.size)⟩ | exact ⟨ret_bool (hx.out.symm), E.out.trans (B9.out.mono E.out.size)⟩ | exact ⟨ret_bool (hx.out.symm), E.out⟩ | exact ⟨ret_bool (hx.out.symm), belowN E.out _⟩ | exact ⟨ret_bool (hx.out.symm), (belowN E.out _).drew⟩ | exact ⟨ret_bool (hx.out.symm), (Below.refl _ _).alloc (Nat.le_refl _) _⟩ | exact ⟨ret_bool (hx.out.symm), belowN ((Below.refl _ _).alloc (Nat.le_refl _) _) _⟩
          · skip
            have hv := Lib.hid (show exp1 t.op t.n t.s t.t t.kids.length = false from by unfold exp1; simp [o3, nb, a, te, hk])
            have hx := Lib.hid (show t.exp = false by rw [hte.out, hv.out]; rfl)
            have p1 : (t.op == 1) = false := by rw [o3]; rfl
            have r1 : (t.op != 1) = true := by rw [o3]; rfl
            have p2 : (t.op == 2) = false := by rw [o3]; rfl
            have r2 : (t.op != 2) = true := by rw [o3]; rfl
            have p3 : (t.op == 3) = true := by rw [o3]; rfl
            have r3 : (t.op != 3) = false := by rw [o3]; rfl
            have p16 : (t.op == 16) = false := by rw [o3]; rfl
            have r16 : (t.op != 16) = true := by rw [o3]; rfl
            have p5 : (t.op == 5) = false := by rw [o3]; rfl
            have r5 : (t.op != 5) = true := by rw [o3]; rfl
            have p6 : (t.op == 6) = false := by rw [o3]; rfl
            have r6 : (t.op != 6) = true := by rw [o3]; rfl
            have p4 : (t.op == 4) = false := by rw [o3]; rfl
            have r4 : (t.op != 4) = true := by rw [o3]; rfl
            have p10 : (t.op == 10) = false := by rw [o3]; rfl
            have r10 : (t.op != 10) = true := by rw [o3]; rfl
            have p11 : (t.op == 11) = false := by rw [o3]; rfl
            have r11 : (t.op != 11) = true := by rw [o3]; rfl
            have p12 : (t.op == 12) = false := by rw [o3]; rfl
            have r12 : (t.op != 12) = true := by rw [o3]; rfl
            have p13 : (t.op == 13) = false := by rw [o3]; rfl
            have r13 : (t.op != 13) = true := by rw [o3]; rfl
            have p14 : (t.op == 14) = false := by rw [o3]; rfl
            have r14 : (t.op != 14) = true := by rw [o3]; rfl
            have p9 : (t.op == 9) = false := by rw [o3]; rfl
            have r9 : (t.op != 9) = true := by rw [o3]; rfl
            have p15 : (t.op == 15) = false := by rw [o3]; rfl
            have r15 : (t.op != 15) = true := by rw [o3]; rfl
            have p7 : (t.op == 7) = false := by rw [o3]; rfl
            have r7 : (t.op != 7) = true := by rw [o3]; rfl
            clear o3
            have hk1 : (t.kids.length == 1) = false := by simp [hk]
            have hk2 : ((t.kids.length : Int) == 1) = false := by rw [beq_eq_false_iff_ne]; omega
            have Hhk := Lib.hid hk
            clear hk
            have HNM := Lib.hid (fun (wx : World) => implNameOk t.s wx hsz2)
            rw [nb] at HNM
            clear nb
            go_enter Try.func105, Try.ntmps105
            go_wp2_with fail
            go_quiet (fail)
            go_wp2_with (first | (go_at_call 194; (try rw [← EQ.out]); refine (HNM.out _).mono ?_; rintro e w9 ⟨rfl, hb9⟩; have B9 : Hid (Below w0.heap.size w0 w9) := (by first | exact Lib.hid (B8.out.trans (hb9.mono B8.out.size)) | exact Lib.hid hb9 | exact Lib.hid (((belowN (Below.refl w0.heap.size w0) _).drew).trans hb9) | exact Lib.hid ((belowN (Below.refl w0.heap.size w0) _).trans hb9) | exact Lib.hid ((belowN (Below.refl w0.heap.size w0) _).trans (hb9.mono (belowN (Below.refl w0.heap.size w0) _).size)) | exact Lib.hid (B8.out.trans ((belowN (Below.refl w0.heap.size w8) _).trans (hb9.mono (Nat.le_trans B8.out.size (belowN (Below.refl w0.heap.size w8) _).size))))); have R9 := Lib.hid (R.out.below B9.out R.out.lt); have hc9 := fun i => R9.out.cell i; clear hb9))
            go_ret
            first | exact ⟨ret_bool (hx.out.symm), E.out.trans (B7.out.mono E.out.size)⟩ | exact ⟨ret_bool (hx.out.symm), E.out.trans (B8.out.mono E.out.size)⟩ | exact ⟨ret_bool (hx.out.symm), E.out.trans (B9.out.mono E.out.size)⟩ | exact ⟨ret_bool (hx.out.symm), E.out⟩ | exact ⟨ret_bool (hx.out.symm), belowN E.out _⟩ | exact ⟨ret_bool (hx.out.symm), (belowN E.out _).drew⟩ | exact ⟨ret_bool (hx.out.symm), (Below.refl _ _).alloc (Nat.le_refl _) _⟩ | exact ⟨ret_bool (hx.out.symm), belowN ((Below.refl _ _).alloc (Nat.le_refl _) _) _⟩

end Go.Proofs.Ytgbcdfeflgnogaa
