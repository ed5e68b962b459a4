/- Expressions that are tidy, in the program (5). Conditions: none. -/
import Derived.Test.YtgbcdfeflgnogaaNodeC
import Derived.Deep.RegionLaw
import Derived.Deep.DeepMust
import Derived.Deep.RegionHeld3
namespace Go.Proofs.Ytgbcdfeflgnogaa
open Go.RowKit
set_option linter.unusedVariables false
set_option linter.unusedSimpArgs false
set_option maxHeartbeats 40000000

set_option maxRecDepth 20000 in
theorem implExp_15 (t : GNode) (A1 : Option Addr) (c1 : Nat) (w : World) (o15 : t.op = 15)
    (HKK : ∀ x ∈ t.kids, ∀ (A2 : Option Addr) (c2 : Nat) (w2 : World), GNode.At w2 (Lt w2.heap.size) A2 c2 x → Calls Try.prog 105 #[.agg #[.int .i64 x.op, .int .i64 x.n, .string x.s, .string x.t, .slice A2 x.kids.length c2]] w2 fun e w' => e = .returned (.bool x.exp) ∧ Below w2.heap.size w2 w')
    (HK2 : ∀ y ∈ t.kids, ∀ (A2 : Option Addr) (c2 : Nat) (w2 : World), GNode.At w2 (Lt w2.heap.size) A2 c2 y → Calls Try.prog 197 #[.agg #[.int .i64 y.op, .int .i64 y.n, .string y.s, .string y.t, .slice A2 y.kids.length c2]] w2 fun e w' => e = .returned (.bool y.alt) ∧ Below w2.heap.size w2 w')
    (ht : GNode.At w (Lt w.heap.size) A1 c1 t) :
    Calls Try.prog 105 #[.agg #[.int .i64 t.op, .int .i64 t.n, .string t.s, .string t.t, .slice A1 t.kids.length c1]] w fun e w' => e = .returned (.bool t.exp) ∧ Below w.heap.size w w' := by
    obtain ⟨h0, h1, h2, h3, hs⟩ := id ht
    have hsz2 : t.s.size ≤ 9223372036854775807 := by unfold maxLen at h2; omega
    have hsz3 : t.t.size ≤ 9223372036854775807 := by unfold maxLen at h3; omega
    have hlen : t.kids.length ≤ 9223372036854775807 := by simpa using hs.len
    have hte := Lib.hid t.exp_eq
    obtain ⟨w0, e0⟩ : ∃ w0, w0 = w.alloc (.cells #[.int .i64 t.op, .int .i64 t.n, .string t.s, .string t.t, .slice A1 t.kids.length c1] 49) := ⟨_, rfl⟩
    have E := Lib.hid (show Below w.heap.size w w0 by rw [e0]; exact (Below.refl _ _).alloc (Nat.le_refl _) _)
    have R := Lib.hid (show Row w0 w.heap.size 49 #[.int .i64 t.op, .int .i64 t.n, .string t.s, .string t.t, .slice A1 t.kids.length c1] by rw [e0]; exact Row.new' _ _ _ rfl)
    have EQ := Lib.hid e0
    have HAN := Lib.hid (fun (wx : World) (hb : Below w0.heap.size w0 wx) => implAllNodes 105 (enters Try.func105 (by kernel_rfl) (by kernel_rfl)) #[] GNode.exp t.kids A1 c1 wx (hs.below (E.out.trans (hb.mono E.out.size)) (Nat.le_trans E.out.size hb.size)) (fun x hx A2 c2 w2 _ hx2 => HKK x hx A2 c2 w2 hx2))
    have HKH := Lib.hid HKK
    have HAL := Lib.hid HK2
    have HSS := Lib.hid hs
    have hc0 := fun i => R.out.cell i
    clear HKK HK2 e0 h0 h1 h2 h3 hs ht
    cases cn : (conB t.s)
    · skip
      cases a : (t.n == 0)
      · skip
        have hv := Lib.hid (show exp1 t.op t.n t.s t.t t.kids.length = false from by unfold exp1; simp [o15, cn, a])
        have hx := Lib.hid (show t.exp = false by rw [hte.out, hv.out]; rfl)
        have p1 : (t.op == 1) = false := by rw [o15]; rfl
        have r1 : (t.op != 1) = true := by rw [o15]; rfl
        have p2 : (t.op == 2) = false := by rw [o15]; rfl
        have r2 : (t.op != 2) = true := by rw [o15]; rfl
        have p3 : (t.op == 3) = false := by rw [o15]; rfl
        have r3 : (t.op != 3) = true := by rw [o15]; rfl
        have p16 : (t.op == 16) = false := by rw [o15]; rfl
        have r16 : (t.op != 16) = true := by rw [o15]; rfl
        have p5 : (t.op == 5) = false := by rw [o15]; rfl
        have r5 : (t.op != 5) = true := by rw [o15]; rfl
        have p6 : (t.op == 6) = false := by rw [o15]; rfl
        have r6 : (t.op != 6) = true := by rw [o15]; rfl
        have p4 : (t.op == 4) = false := by rw [o15]; rfl
        have r4 : (t.op != 4) = true := by rw [o15]; rfl
        have p10 : (t.op == 10) = false := by rw [o15]; rfl
        have r10 : (t.op != 10) = true := by rw [o15]; rfl
        have p11 : (t.op == 11) = false := by rw [o15]; rfl
        have r11 : (t.op != 11) = true := by rw [o15]; rfl
        have p12 : (t.op == 12) = false := by rw [o15]; rfl
        have r12 : (t.op != 12) = true := by rw [o15]; rfl
        have p13 : (t.op == 13) = false := by rw [o15]; rfl
        have r13 : (t.op != 13) = true := by rw [o15]; rfl
        have p14 : (t.op == 14) = false := by rw [o15]; rfl
        have r14 : (t.op != 14) = true := by rw [o15]; rfl
        have p9 : (t.op == 9) = false := by rw [o15]; rfl
        have r9 : (t.op != 9) = true := by rw [o15]; rfl
        have p15 : (t.op == 15) = true := by rw [o15]; rfl
        have r15 : (t.op != 15) = false := by rw [o15]; rfl
        have p7 : (t.op == 7) = false := by rw [o15]; rfl
        have r7 : (t.op != 7) = true := by rw [o15]; rfl
        clear o15
        have HCN := Lib.hid (fun (wx : World) => implConOk t.s wx hsz2)
        rw [cn] at HCN
        clear cn
        go_enter Try.func105, Try.ntmps105
        go_wp2_with fail
        go_quiet (fail)
        go_wp2_with fail
        rw [← EQ.out]
        go_region_held3 (fun w' => ∀ i, w'.cell? ⟨w.heap.size, i, none⟩ = (#[.int .i64 t.op, .int .i64 t.n, .string t.s, .string t.t, .slice A1 t.kids.length c1] : Array Value)[i]?) (first | exact hc9 | exact hc8 | exact fun i => R.out.cell i) (first | (go_at_call 195; (try rw [← EQ.out]); refine (HCN.out _).mono ?_; rintro e w6 ⟨rfl, rfl⟩))
        all_goals
          go_wp2_with fail
          go_ret
          first | exact ⟨ret_bool (hx.out.symm), E.out.trans (B7.out.mono E.out.size)⟩ | exact ⟨ret_bool (hx.out.symm), E.out.trans (B8.out.mono E.out.size)⟩ | exact ⟨ret_bool (hx.out.symm), E.out.trans (B9.out.mono E.out.size)⟩ | exact ⟨ret_bool (hx.out.symm), E.out⟩ | exact ⟨ret_bool (hx.out.symm), belowN E.out _⟩ | exact ⟨ret_bool (hx.out.symm), (belowN E.out _).drew⟩ | exact ⟨ret_bool (hx.out.symm), (Below.refl _ _).alloc (Nat.le_refl _) _⟩ | exact ⟨ret_bool (hx.out.symm), belowN ((Below.refl _ _).alloc (Nat.le_refl _) _) _⟩
      · skip
        have hv := Lib.hid (show exp1 t.op t.n t.s t.t t.kids.length = false from by unfold exp1; simp [o15, cn, a])
        have hx := Lib.hid (show t.exp = false by rw [hte.out, hv.out]; rfl)
        have p1 : (t.op == 1) = false := by rw [o15]; rfl
        have r1 : (t.op != 1) = true := by rw [o15]; rfl
        have p2 : (t.op == 2) = false := by rw [o15]; rfl
        have r2 : (t.op != 2) = true := by rw [o15]; rfl
        have p3 : (t.op == 3) = false := by rw [o15]; rfl
        have r3 : (t.op != 3) = true := by rw [o15]; rfl
        have p16 : (t.op == 16) = false := by rw [o15]; rfl
        have r16 : (t.op != 16) = true := by rw [o15]; rfl
        have p5 : (t.op == 5) = false := by rw [o15]; rfl
        have r5 : (t.op != 5) = true := by rw [o15]; rfl
        have p6 : (t.op == 6) = false := by rw [o15]; rfl
        have r6 : (t.op != 6) = true := by rw [o15]; rfl
        have p4 : (t.op == 4) = false := by rw [o15]; rfl
        have r4 : (t.op != 4) = true := by rw [o15]; rfl
        have p10 : (t.op == 10) = false := by rw [o15]; rfl
        have r10 : (t.op != 10) = true := by rw [o15]; rfl
        have p11 : (t.op == 11) = false := by rw [o15]; rfl
        have r11 : (t.op != 11) = true := by rw [o15]; rfl
        have p12 : (t.op == 12) = false := by rw [o15]; rfl
        have r12 : (t.op != 12) = true := by rw [o15]; rfl
        have p13 : (t.op == 13) = false := by rw [o15]; rfl
        have r13 : (t.op != 13) = true := by rw [o15]; rfl
        have p14 : (t.op == 14) = false := by rw [o15]; rfl
        have r14 : (t.op != 14) = true := by rw [o15]; rfl
        have p9 : (t.op == 9) = false := by rw [o15]; rfl
        have r9 : (t.op != 9) = true := by rw [o15]; rfl
        have p15 : (t.op == 15) = true := by rw [o15]; rfl
        have r15 : (t.op != 15) = false := by rw [o15]; rfl
        have p7 : (t.op == 7) = false := by rw [o15]; rfl
        have r7 : (t.op != 7) = true := by rw [o15]; rfl
        clear o15
        have HCN := Lib.hid (fun (wx : World) => implConOk t.s wx hsz2)
        rw [cn] at HCN
        clear cn
        go_enter Try.func105, Try.ntmps105
        go_wp2_with fail
        go_quiet (fail)
        go_wp2_with fail
        rw [← EQ.out]
        go_region_held3 (fun w' => ∀ i, w'.cell? ⟨w.heap.size, i, none⟩ = (#[.int .i64 t.op, .int .i64 t.n, .string t.s, .string t.t, .slice A1 t.kids.length c1] : Array Value)[i]?) (first | exact hc9 | exact hc8 | exact fun i => R.out.cell i) (first | (go_at_call 195; (try rw [← EQ.out]); refine (HCN.out _).mono ?_; rintro e w6 ⟨rfl, rfl⟩))
        all_goals
          go_wp2_with fail
          go_ret
          first | exact ⟨ret_bool (hx.out.symm), E.out.trans (B7.out.mono E.out.size)⟩ | exact ⟨ret_bool (hx.out.symm), E.out.trans (B8.out.mono E.out.size)⟩ | exact ⟨ret_bool (hx.out.symm), E.out.trans (B9.out.mono E.out.size)⟩ | exact ⟨ret_bool (hx.out.symm), E.out⟩ | exact ⟨ret_bool (hx.out.symm), belowN E.out _⟩ | exact ⟨ret_bool (hx.out.symm), (belowN E.out _).drew⟩ | exact ⟨ret_bool (hx.out.symm), (Below.refl _ _).alloc (Nat.le_refl _) _⟩ | exact ⟨ret_bool (hx.out.symm), belowN ((Below.refl _ _).alloc (Nat.le_refl _) _) _⟩
    · skip
      cases a : (t.n == 0)
      · skip
        have hv := Lib.hid (show exp1 t.op t.n t.s t.t t.kids.length = false from by unfold exp1; simp [o15, cn, a])
        have hx := Lib.hid (show t.exp = false by rw [hte.out, hv.out]; rfl)
        have p1 : (t.op == 1) = false := by rw [o15]; rfl
        have r1 : (t.op != 1) = true := by rw [o15]; rfl
        have p2 : (t.op == 2) = false := by rw [o15]; rfl
        have r2 : (t.op != 2) = true := by rw [o15]; rfl
        have p3 : (t.op == 3) = false := by rw [o15]; rfl
        have r3 : (t.op != 3) = true := by rw [o15]; rfl
        have p16 : (t.op == 16) = false := by rw [o15]; rfl
        have r16 : (t.op != 16) = true := by rw [o15]; rfl
        have p5 : (t.op == 5) = false := by rw [o15]; rfl
        have r5 : (t.op != 5) = true := by rw [o15]; rfl
        have p6 : (t.op == 6) = false := by rw [o15]; rfl
        have r6 : (t.op != 6) = true := by rw [o15]; rfl
        have p4 : (t.op == 4) = false := by rw [o15]; rfl
        have r4 : (t.op != 4) = true := by rw [o15]; rfl
        have p10 : (t.op == 10) = false := by rw [o15]; rfl
        have r10 : (t.op != 10) = true := by rw [o15]; rfl
        have p11 : (t.op == 11) = false := by rw [o15]; rfl
        have r11 : (t.op != 11) = true := by rw [o15]; rfl
        have p12 : (t.op == 12) = false := by rw [o15]; rfl
        have r12 : (t.op != 12) = true := by rw [o15]; rfl
        have p13 : (t.op == 13) = false := by rw [o15]; rfl
        have r13 : (t.op != 13) = true := by rw [o15]; rfl
        have p14 : (t.op == 14) = false := by rw [o15]; rfl
        have r14 : (t.op != 14) = true := by rw [o15]; rfl
        have p9 : (t.op == 9) = false := by rw [o15]; rfl
        have r9 : (t.op != 9) = true := by rw [o15]; rfl
        have p15 : (t.op == 15) = true := by rw [o15]; rfl
        have r15 : (t.op != 15) = false := by rw [o15]; rfl
        have p7 : (t.op == 7) = false := by rw [o15]; rfl
        have r7 : (t.op != 7) = true := by rw [o15]; rfl
        clear o15
        have HCN := Lib.hid (fun (wx : World) => implConOk t.s wx hsz2)
        rw [cn] at HCN
        clear cn
        go_enter Try.func105, Try.ntmps105
        go_wp2_with fail
        go_quiet (fail)
        go_wp2_with fail
        rw [← EQ.out]
        go_region_held3 (fun w' => ∀ i, w'.cell? ⟨w.heap.size, i, none⟩ = (#[.int .i64 t.op, .int .i64 t.n, .string t.s, .string t.t, .slice A1 t.kids.length c1] : Array Value)[i]?) (first | exact hc9 | exact hc8 | exact fun i => R.out.cell i) (first | (go_at_call 195; (try rw [← EQ.out]); refine (HCN.out _).mono ?_; rintro e w6 ⟨rfl, rfl⟩))
        all_goals
          go_wp2_with fail
          go_ret
          first | exact ⟨ret_bool (hx.out.symm), E.out.trans (B7.out.mono E.out.size)⟩ | exact ⟨ret_bool (hx.out.symm), E.out.trans (B8.out.mono E.out.size)⟩ | exact ⟨ret_bool (hx.out.symm), E.out.trans (B9.out.mono E.out.size)⟩ | exact ⟨ret_bool (hx.out.symm), E.out⟩ | exact ⟨ret_bool (hx.out.symm), belowN E.out _⟩ | exact ⟨ret_bool (hx.out.symm), (belowN E.out _).drew⟩ | exact ⟨ret_bool (hx.out.symm), (Below.refl _ _).alloc (Nat.le_refl _) _⟩ | exact ⟨ret_bool (hx.out.symm), belowN ((Below.refl _ _).alloc (Nat.le_refl _) _) _⟩
      · skip
        cases te : (t.t.toList.isEmpty)
        · skip
          have hv := Lib.hid (show exp1 t.op t.n t.s t.t t.kids.length = false from by unfold exp1; simp [o15, cn, a, te])
          have hx := Lib.hid (show t.exp = false by rw [hte.out, hv.out]; rfl)
          have p1 : (t.op == 1) = false := by rw [o15]; rfl
          have r1 : (t.op != 1) = true := by rw [o15]; rfl
          have p2 : (t.op == 2) = false := by rw [o15]; rfl
          have r2 : (t.op != 2) = true := by rw [o15]; rfl
          have p3 : (t.op == 3) = false := by rw [o15]; rfl
          have r3 : (t.op != 3) = true := by rw [o15]; rfl
          have p16 : (t.op == 16) = false := by rw [o15]; rfl
          have r16 : (t.op != 16) = true := by rw [o15]; rfl
          have p5 : (t.op == 5) = false := by rw [o15]; rfl
          have r5 : (t.op != 5) = true := by rw [o15]; rfl
          have p6 : (t.op == 6) = false := by rw [o15]; rfl
          have r6 : (t.op != 6) = true := by rw [o15]; rfl
          have p4 : (t.op == 4) = false := by rw [o15]; rfl
          have r4 : (t.op != 4) = true := by rw [o15]; rfl
          have p10 : (t.op == 10) = false := by rw [o15]; rfl
          have r10 : (t.op != 10) = true := by rw [o15]; rfl
          have p11 : (t.op == 11) = false := by rw [o15]; rfl
          have r11 : (t.op != 11) = true := by rw [o15]; rfl
          have p12 : (t.op == 12) = false := by rw [o15]; rfl
          have r12 : (t.op != 12) = true := by rw [o15]; rfl
          have p13 : (t.op == 13) = false := by rw [o15]; rfl
          have r13 : (t.op != 13) = true := by rw [o15]; rfl
          have p14 : (t.op == 14) = false := by rw [o15]; rfl
          have r14 : (t.op != 14) = true := by rw [o15]; rfl
          have p9 : (t.op == 9) = false := by rw [o15]; rfl
          have r9 : (t.op != 9) = true := by rw [o15]; rfl
          have p15 : (t.op == 15) = true := by rw [o15]; rfl
          have r15 : (t.op != 15) = false := by rw [o15]; rfl
          have p7 : (t.op == 7) = false := by rw [o15]; rfl
          have r7 : (t.op != 7) = true := by rw [o15]; rfl
          clear o15
          have HCN := Lib.hid (fun (wx : World) => implConOk t.s wx hsz2)
          rw [cn] at HCN
          clear cn
          go_enter Try.func105, Try.ntmps105
          go_wp2_with fail
          go_quiet (fail)
          go_wp2_with fail
          rw [← EQ.out]
          go_region_held3 (fun w' => ∀ i, w'.cell? ⟨w.heap.size, i, none⟩ = (#[.int .i64 t.op, .int .i64 t.n, .string t.s, .string t.t, .slice A1 t.kids.length c1] : Array Value)[i]?) (first | exact hc9 | exact hc8 | exact fun i => R.out.cell i) (first | (go_at_call 195; (try rw [← EQ.out]); refine (HCN.out _).mono ?_; rintro e w6 ⟨rfl, rfl⟩))
          all_goals
            go_wp2_with fail
            go_ret
            first | exact ⟨ret_bool (hx.out.symm), E.out.trans (B7.out.mono E.out.size)⟩ | exact ⟨ret_bool (hx.out.symm), E.out.trans (B8.out.mono E.out.size)⟩ | exact ⟨ret_bool (hx.out.symm), E.out.trans (B9.out.mono E.out.size)⟩ | exact ⟨ret_bool (hx.out.symm), E.out⟩ | exact ⟨ret_bool (hx.out.symm), belowN E.out _⟩ | exact ⟨ret_bool (hx.out.symm), (belowN E.out _).drew⟩ | exact ⟨ret_bool (hx.out.symm), (Below.refl _ _).alloc (Nat.le_refl _) _⟩ | exact ⟨ret_bool (hx.out.symm), belowN ((Below.refl _ _).alloc (Nat.le_refl _) _) _⟩
        · skip
          have hv := Lib.hid (show exp1 t.op t.n t.s t.t t.kids.length = true from by unfold exp1; simp [o15, cn, a, te])
          have hx := Lib.hid (show t.exp = t.kids.all GNode.exp by rw [hte.out, hv.out, if_neg (by omega), GNode.expL_all]; rfl)
          have p1 : (t.op == 1) = false := by rw [o15]; rfl
          have r1 : (t.op != 1) = true := by rw [o15]; rfl
          have p2 : (t.op == 2) = false := by rw [o15]; rfl
          have r2 : (t.op != 2) = true := by rw [o15]; rfl
          have p3 : (t.op == 3) = false := by rw [o15]; rfl
          have r3 : (t.op != 3) = true := by rw [o15]; rfl
          have p16 : (t.op == 16) = false := by rw [o15]; rfl
          have r16 : (t.op != 16) = true := by rw [o15]; rfl
          have p5 : (t.op == 5) = false := by rw [o15]; rfl
          have r5 : (t.op != 5) = true := by rw [o15]; rfl
          have p6 : (t.op == 6) = false := by rw [o15]; rfl
          have r6 : (t.op != 6) = true := by rw [o15]; rfl
          have p4 : (t.op == 4) = false := by rw [o15]; rfl
          have r4 : (t.op != 4) = true := by rw [o15]; rfl
          have p10 : (t.op == 10) = false := by rw [o15]; rfl
          have r10 : (t.op != 10) = true := by rw [o15]; rfl
          have p11 : (t.op == 11) = false := by rw [o15]; rfl
          have r11 : (t.op != 11) = true := by rw [o15]; rfl
          have p12 : (t.op == 12) = false := by rw [o15]; rfl
          have r12 : (t.op != 12) = true := by rw [o15]; rfl
          have p13 : (t.op == 13) = false := by rw [o15]; rfl
          have r13 : (t.op != 13) = true := by rw [o15]; rfl
          have p14 : (t.op == 14) = false := by rw [o15]; rfl
          have r14 : (t.op != 14) = true := by rw [o15]; rfl
          have p9 : (t.op == 9) = false := by rw [o15]; rfl
          have r9 : (t.op != 9) = true := by rw [o15]; rfl
          have p15 : (t.op == 15) = true := by rw [o15]; rfl
          have r15 : (t.op != 15) = false := by rw [o15]; rfl
          have p7 : (t.op == 7) = false := by rw [o15]; rfl
          have r7 : (t.op != 7) = true := by rw [o15]; rfl
          clear o15
          have HCN := Lib.hid (fun (wx : World) => implConOk t.s wx hsz2)
          rw [cn] at HCN
          clear cn
          go_enter Try.func105, Try.ntmps105
          go_wp2_with fail
          go_quiet (fail)
          go_wp2_with fail
          rw [← EQ.out]
          go_region_held3 (fun w' => ∀ i, w'.cell? ⟨w.heap.size, i, none⟩ = (#[.int .i64 t.op, .int .i64 t.n, .string t.s, .string t.t, .slice A1 t.kids.length c1] : Array Value)[i]?) (first | exact hc9 | exact hc8 | exact fun i => R.out.cell i) (first | (go_at_call 195; (try rw [← EQ.out]); refine (HCN.out _).mono ?_; rintro e w6 ⟨rfl, rfl⟩))
          all_goals
            go_wp2_with (first | (go_at_call 196; (try rw [← EQ.out]); refine (HAN.out _ (by first | exact B8.out | exact B9.out | exact Below.refl _ _ | exact belowN (Below.refl _ _) _ | exact (belowN (Below.refl _ _) _).drew)).mono ?_; rintro e w7 ⟨rfl, hb7⟩; have B7 : Hid (Below w0.heap.size w0 w7) := (by first | exact Lib.hid (B8.out.trans (hb7.mono B8.out.size)) | exact Lib.hid (B9.out.trans (hb7.mono B9.out.size)) | exact Lib.hid hb7 | exact Lib.hid ((belowN (Below.refl w0.heap.size w0) _).trans hb7) | exact Lib.hid (((belowN (Below.refl w0.heap.size w0) _).drew).trans hb7)); clear hb7))
            go_ret
            first | exact ⟨ret_bool (hx.out.symm), E.out.trans (B7.out.mono E.out.size)⟩ | exact ⟨ret_bool (hx.out.symm), E.out.trans (B8.out.mono E.out.size)⟩ | exact ⟨ret_bool (hx.out.symm), E.out.trans (B9.out.mono E.out.size)⟩ | exact ⟨ret_bool (hx.out.symm), E.out⟩ | exact ⟨ret_bool (hx.out.symm), belowN E.out _⟩ | exact ⟨ret_bool (hx.out.symm), (belowN E.out _).drew⟩ | exact ⟨ret_bool (hx.out.symm), (Below.refl _ _).alloc (Nat.le_refl _) _⟩ | exact ⟨ret_bool (hx.out.symm), belowN ((Below.refl _ _).alloc (Nat.le_refl _) _) _⟩

set_option maxRecDepth 20000 in
theorem implExp_7 (t : GNode) (A1 : Option Addr) (c1 : Nat) (w : World) (o7 : t.op = 7)
    (HKK : ∀ x ∈ t.kids, ∀ (A2 : Option Addr) (c2 : Nat) (w2 : World), GNode.At w2 (Lt w2.heap.size) A2 c2 x → Calls Try.prog 105 #[.agg #[.int .i64 x.op, .int .i64 x.n, .string x.s, .string x.t, .slice A2 x.kids.length c2]] w2 fun e w' => e = .returned (.bool x.exp) ∧ Below w2.heap.size w2 w')
    (HK2 : ∀ y ∈ t.kids, ∀ (A2 : Option Addr) (c2 : Nat) (w2 : World), GNode.At w2 (Lt w2.heap.size) A2 c2 y → Calls Try.prog 197 #[.agg #[.int .i64 y.op, .int .i64 y.n, .string y.s, .string y.t, .slice A2 y.kids.length c2]] w2 fun e w' => e = .returned (.bool y.alt) ∧ Below w2.heap.size w2 w')
    (ht : GNode.At w (Lt w.heap.size) A1 c1 t) :
    Calls Try.prog 105 #[.agg #[.int .i64 t.op, .int .i64 t.n, .string t.s, .string t.t, .slice A1 t.kids.length c1]] w fun e w' => e = .returned (.bool t.exp) ∧ Below w.heap.size w w' := by
    obtain ⟨h0, h1, h2, h3, hs⟩ := id ht
    have hsz2 : t.s.size ≤ 9223372036854775807 := by unfold maxLen at h2; omega
    have hsz3 : t.t.size ≤ 9223372036854775807 := by unfold maxLen at h3; omega
    have hlen : t.kids.length ≤ 9223372036854775807 := by simpa using hs.len
    have hte := Lib.hid t.exp_eq
    obtain ⟨w0, e0⟩ : ∃ w0, w0 = w.alloc (.cells #[.int .i64 t.op, .int .i64 t.n, .string t.s, .string t.t, .slice A1 t.kids.length c1] 49) := ⟨_, rfl⟩
    have E := Lib.hid (show Below w.heap.size w w0 by rw [e0]; exact (Below.refl _ _).alloc (Nat.le_refl _) _)
    have R := Lib.hid (show Row w0 w.heap.size 49 #[.int .i64 t.op, .int .i64 t.n, .string t.s, .string t.t, .slice A1 t.kids.length c1] by rw [e0]; exact Row.new' _ _ _ rfl)
    have EQ := Lib.hid e0
    have HAN := Lib.hid (fun (wx : World) (hb : Below w0.heap.size w0 wx) => implAllNodes 105 (enters Try.func105 (by kernel_rfl) (by kernel_rfl)) #[] GNode.exp t.kids A1 c1 wx (hs.below (E.out.trans (hb.mono E.out.size)) (Nat.le_trans E.out.size hb.size)) (fun x hx A2 c2 w2 _ hx2 => HKK x hx A2 c2 w2 hx2))
    have HKH := Lib.hid HKK
    have HAL := Lib.hid HK2
    have HSS := Lib.hid hs
    have hc0 := fun i => R.out.cell i
    clear HKK HK2 e0 h0 h1 h2 h3 hs ht
    cases a : (t.n == 0)
    · skip
      have hv := Lib.hid (show exp1 t.op t.n t.s t.t t.kids.length = false from by unfold exp1; simp [o7, a])
      have hx := Lib.hid (show t.exp = false by rw [hte.out, hv.out]; rfl)
      have p1 : (t.op == 1) = false := by rw [o7]; rfl
      have r1 : (t.op != 1) = true := by rw [o7]; rfl
      have p2 : (t.op == 2) = false := by rw [o7]; rfl
      have r2 : (t.op != 2) = true := by rw [o7]; rfl
      have p3 : (t.op == 3) = false := by rw [o7]; rfl
      have r3 : (t.op != 3) = true := by rw [o7]; rfl
      have p16 : (t.op == 16) = false := by rw [o7]; rfl
      have r16 : (t.op != 16) = true := by rw [o7]; rfl
      have p5 : (t.op == 5) = false := by rw [o7]; rfl
      have r5 : (t.op != 5) = true := by rw [o7]; rfl
      have p6 : (t.op == 6) = false := by rw [o7]; rfl
      have r6 : (t.op != 6) = true := by rw [o7]; rfl
      have p4 : (t.op == 4) = false := by rw [o7]; rfl
      have r4 : (t.op != 4) = true := by rw [o7]; rfl
      have p10 : (t.op == 10) = false := by rw [o7]; rfl
      have r10 : (t.op != 10) = true := by rw [o7]; rfl
      have p11 : (t.op == 11) = false := by rw [o7]; rfl
      have r11 : (t.op != 11) = true := by rw [o7]; rfl
      have p12 : (t.op == 12) = false := by rw [o7]; rfl
      have r12 : (t.op != 12) = true := by rw [o7]; rfl
      have p13 : (t.op == 13) = false := by rw [o7]; rfl
      have r13 : (t.op != 13) = true := by rw [o7]; rfl
      have p14 : (t.op == 14) = false := by rw [o7]; rfl
      have r14 : (t.op != 14) = true := by rw [o7]; rfl
      have p9 : (t.op == 9) = false := by rw [o7]; rfl
      have r9 : (t.op != 9) = true := by rw [o7]; rfl
      have p15 : (t.op == 15) = false := by rw [o7]; rfl
      have r15 : (t.op != 15) = true := by rw [o7]; rfl
      have p7 : (t.op == 7) = true := by rw [o7]; rfl
      have r7 : (t.op != 7) = false := by rw [o7]; rfl
      clear o7
      go_enter Try.func105, Try.ntmps105
      go_wp2_with fail
      go_quiet (fail)
      go_wp2_with fail
      go_ret
      first | exact ⟨ret_bool (hx.out.symm), E.out.trans (B7.out.mono E.out.size)⟩ | exact ⟨ret_bool (hx.out.symm), E.out.trans (B8.out.mono E.out.size)⟩ | exact ⟨ret_bool (hx.out.symm), E.out.trans (B9.out.mono E.out.size)⟩ | exact ⟨ret_bool (hx.out.symm), E.out⟩ | exact ⟨ret_bool (hx.out.symm), belowN E.out _⟩ | exact ⟨ret_bool (hx.out.symm), (belowN E.out _).drew⟩ | exact ⟨ret_bool (hx.out.symm), (Below.refl _ _).alloc (Nat.le_refl _) _⟩ | exact ⟨ret_bool (hx.out.symm), belowN ((Below.refl _ _).alloc (Nat.le_refl _) _) _⟩
    · skip
      cases b : (t.s.toList.isEmpty)
      · skip
        have hv := Lib.hid (show exp1 t.op t.n t.s t.t t.kids.length = false from by unfold exp1; simp [o7, a, b])
        have hx := Lib.hid (show t.exp = false by rw [hte.out, hv.out]; rfl)
        have p1 : (t.op == 1) = false := by rw [o7]; rfl
        have r1 : (t.op != 1) = true := by rw [o7]; rfl
        have p2 : (t.op == 2) = false := by rw [o7]; rfl
        have r2 : (t.op != 2) = true := by rw [o7]; rfl
        have p3 : (t.op == 3) = false := by rw [o7]; rfl
        have r3 : (t.op != 3) = true := by rw [o7]; rfl
        have p16 : (t.op == 16) = false := by rw [o7]; rfl
        have r16 : (t.op != 16) = true := by rw [o7]; rfl
        have p5 : (t.op == 5) = false := by rw [o7]; rfl
        have r5 : (t.op != 5) = true := by rw [o7]; rfl
        have p6 : (t.op == 6) = false := by rw [o7]; rfl
        have r6 : (t.op != 6) = true := by rw [o7]; rfl
        have p4 : (t.op == 4) = false := by rw [o7]; rfl
        have r4 : (t.op != 4) = true := by rw [o7]; rfl
        have p10 : (t.op == 10) = false := by rw [o7]; rfl
        have r10 : (t.op != 10) = true := by rw [o7]; rfl
        have p11 : (t.op == 11) = false := by rw [o7]; rfl
        have r11 : (t.op != 11) = true := by rw [o7]; rfl
        have p12 : (t.op == 12) = false := by rw [o7]; rfl
        have r12 : (t.op != 12) = true := by rw [o7]; rfl
        have p13 : (t.op == 13) = false := by rw [o7]; rfl
        have r13 : (t.op != 13) = true := by rw [o7]; rfl
        have p14 : (t.op == 14) = false := by rw [o7]; rfl
        have r14 : (t.op != 14) = true := by rw [o7]; rfl
        have p9 : (t.op == 9) = false := by rw [o7]; rfl
        have r9 : (t.op != 9) = true := by rw [o7]; rfl
        have p15 : (t.op == 15) = false := by rw [o7]; rfl
        have r15 : (t.op != 15) = true := by rw [o7]; rfl
        have p7 : (t.op == 7) = true := by rw [o7]; rfl
        have r7 : (t.op != 7) = false := by rw [o7]; rfl
        clear o7
        go_enter Try.func105, Try.ntmps105
        go_wp2_with fail
        go_quiet (fail)
        go_wp2_with fail
        go_ret
        first | exact ⟨ret_bool (hx.out.symm), E.out.trans (B7.out.mono E.out.size)⟩ | exact ⟨ret_bool (hx.out.symm), E.out.trans (B8.out.mono E.out.size)⟩ | exact ⟨ret_bool (hx.out.symm), E.out.trans (B9.out.mono E.out.size)⟩ | exact ⟨ret_bool (hx.out.symm), E.out⟩ | exact ⟨ret_bool (hx.out.symm), belowN E.out _⟩ | exact ⟨ret_bool (hx.out.symm), (belowN E.out _).drew⟩ | exact ⟨ret_bool (hx.out.symm), (Below.refl _ _).alloc (Nat.le_refl _) _⟩ | exact ⟨ret_bool (hx.out.symm), belowN ((Below.refl _ _).alloc (Nat.le_refl _) _) _⟩
      · skip
        cases te : (t.t.toList.isEmpty)
        · skip
          have hv := Lib.hid (show exp1 t.op t.n t.s t.t t.kids.length = false from by unfold exp1; simp [o7, a, b, te])
          have hx := Lib.hid (show t.exp = false by rw [hte.out, hv.out]; rfl)
          have p1 : (t.op == 1) = false := by rw [o7]; rfl
          have r1 : (t.op != 1) = true := by rw [o7]; rfl
          have p2 : (t.op == 2) = false := by rw [o7]; rfl
          have r2 : (t.op != 2) = true := by rw [o7]; rfl
          have p3 : (t.op == 3) = false := by rw [o7]; rfl
          have r3 : (t.op != 3) = true := by rw [o7]; rfl
          have p16 : (t.op == 16) = false := by rw [o7]; rfl
          have r16 : (t.op != 16) = true := by rw [o7]; rfl
          have p5 : (t.op == 5) = false := by rw [o7]; rfl
          have r5 : (t.op != 5) = true := by rw [o7]; rfl
          have p6 : (t.op == 6) = false := by rw [o7]; rfl
          have r6 : (t.op != 6) = true := by rw [o7]; rfl
          have p4 : (t.op == 4) = false := by rw [o7]; rfl
          have r4 : (t.op != 4) = true := by rw [o7]; rfl
          have p10 : (t.op == 10) = false := by rw [o7]; rfl
          have r10 : (t.op != 10) = true := by rw [o7]; rfl
          have p11 : (t.op == 11) = false := by rw [o7]; rfl
          have r11 : (t.op != 11) = true := by rw [o7]; rfl
          have p12 : (t.op == 12) = false := by rw [o7]; rfl
          have r12 : (t.op != 12) = true := by rw [o7]; rfl
          have p13 : (t.op == 13) = false := by rw [o7]; rfl
          have r13 : (t.op != 13) = true := by rw [o7]; rfl
          have p14 : (t.op == 14) = false := by rw [o7]; rfl
          have r14 : (t.op != 14) = true := by rw [o7]; rfl
          have p9 : (t.op == 9) = false := by rw [o7]; rfl
          have r9 : (t.op != 9) = true := by rw [o7]; rfl
          have p15 : (t.op == 15) = false := by rw [o7]; rfl
          have r15 : (t.op != 15) = true := by rw [o7]; rfl
          have p7 : (t.op == 7) = true := by rw [o7]; rfl
          have r7 : (t.op != 7) = false := by rw [o7]; rfl
          clear o7
          go_enter Try.func105, Try.ntmps105
          go_wp2_with fail
          go_quiet (fail)
          go_wp2_with fail
          go_ret
          first | exact ⟨ret_bool (hx.out.symm), E.out.trans (B7.out.mono E.out.size)⟩ | exact ⟨ret_bool (hx.out.symm), E.out.trans (B8.out.mono E.out.size)⟩ | exact ⟨ret_bool (hx.out.symm), E.out.trans (B9.out.mono E.out.size)⟩ | exact ⟨ret_bool (hx.out.symm), E.out⟩ | exact ⟨ret_bool (hx.out.symm), belowN E.out _⟩ | exact ⟨ret_bool (hx.out.symm), (belowN E.out _).drew⟩ | exact ⟨ret_bool (hx.out.symm), (Below.refl _ _).alloc (Nat.le_refl _) _⟩ | exact ⟨ret_bool (hx.out.symm), belowN ((Below.refl _ _).alloc (Nat.le_refl _) _) _⟩
        · skip
          have hv := Lib.hid (show exp1 t.op t.n t.s t.t t.kids.length = decide (2 ≤ t.kids.length) from by unfold exp1; simp [o7, a, b, te])
          have hxc := Lib.hid (show t.exp = (decide (2 ≤ t.kids.length) && GNode.caseL t.kids) by rw [hte.out, hv.out, if_pos o7])
          have p1 : (t.op == 1) = false := by rw [o7]; rfl
          have r1 : (t.op != 1) = true := by rw [o7]; rfl
          have p2 : (t.op == 2) = false := by rw [o7]; rfl
          have r2 : (t.op != 2) = true := by rw [o7]; rfl
          have p3 : (t.op == 3) = false := by rw [o7]; rfl
          have r3 : (t.op != 3) = true := by rw [o7]; rfl
          have p16 : (t.op == 16) = false := by rw [o7]; rfl
          have r16 : (t.op != 16) = true := by rw [o7]; rfl
          have p5 : (t.op == 5) = false := by rw [o7]; rfl
          have r5 : (t.op != 5) = true := by rw [o7]; rfl
          have p6 : (t.op == 6) = false := by rw [o7]; rfl
          have r6 : (t.op != 6) = true := by rw [o7]; rfl
          have p4 : (t.op == 4) = false := by rw [o7]; rfl
          have r4 : (t.op != 4) = true := by rw [o7]; rfl
          have p10 : (t.op == 10) = false := by rw [o7]; rfl
          have r10 : (t.op != 10) = true := by rw [o7]; rfl
          have p11 : (t.op == 11) = false := by rw [o7]; rfl
          have r11 : (t.op != 11) = true := by rw [o7]; rfl
          have p12 : (t.op == 12) = false := by rw [o7]; rfl
          have r12 : (t.op != 12) = true := by rw [o7]; rfl
          have p13 : (t.op == 13) = false := by rw [o7]; rfl
          have r13 : (t.op != 13) = true := by rw [o7]; rfl
          have p14 : (t.op == 14) = false := by rw [o7]; rfl
          have r14 : (t.op != 14) = true := by rw [o7]; rfl
          have p9 : (t.op == 9) = false := by rw [o7]; rfl
          have r9 : (t.op != 9) = true := by rw [o7]; rfl
          have p15 : (t.op == 15) = false := by rw [o7]; rfl
          have r15 : (t.op != 15) = true := by rw [o7]; rfl
          have p7 : (t.op == 7) = true := by rw [o7]; rfl
          have r7 : (t.op != 7) = false := by rw [o7]; rfl
          clear o7
          by_cases h2 : 2 ≤ t.kids.length
          · obtain ⟨x, r, hxr⟩ := List.exists_cons_of_length_pos (l := t.kids) (by omega)
            have hd2 : decide (2 ≤ t.kids.length) = true := decide_eq_true h2
            have hx := Lib.hid (show t.exp = (x.exp && r.all GNode.alt) by rw [hxc.out, hd2, hxr, GNode.caseL_cons]; rfl)
            have hs := HSS.out
            rw [hxr] at hs
            obtain ⟨b1, off1, A4, c4, eA, hS1, x0, x1, x2, x3, x4, hatx⟩ := GNode.elem hs 0 (by simp)
            simp only [Nat.zero_mul, Nat.add_zero, List.getElem_cons_zero] at x0 x1 x2 x3 x4 hatx
            subst eA
            have hll : t.kids.length = r.length + 1 := by rw [hxr]; rfl
            have hlc : t.kids.length ≤ c1 := by have := hs.1; simp at this; omega
            have HTL := Lib.hid (Sl.tailAt hs)
            have htl := fun (wx : World) => run_tailAt (P := Try.prog) 29 49 5 Try.underlying29 (by kernel_rfl) b1 off1 r.length c1 (by omega) wx
            rw [← hll] at htl
            have HX := Lib.hid (fun (wx : World) (hb : Below w0.heap.size w0 wx) => HKH.out x (by rw [hxr]; simp) A4 c4 wx (hatx.keep (keep_below (E.out.trans (hb.mono E.out.size)) (Nat.le_trans E.out.size hb.size))))
            have HAR := Lib.hid (fun (wx : World) (hb : Below w0.heap.size w0 wx) => implAllNodes 197 (enters Try.func197 (by kernel_rfl) (by kernel_rfl)) #[] GNode.alt r (tailAt b1 off1 5 c1) (c1 - 1) wx (HTL.out.below (E.out.trans (hb.mono E.out.size)) (Nat.le_trans E.out.size hb.size)) (fun y hy A2 c2 w2 _ hy2 => HAL.out y (by rw [hxr]; simp [hy]) A2 c2 w2 hy2))
            have hn0 : 0 < t.kids.length := by omega
            have hn1 : 1 ≤ t.kids.length := by omega
            have hg2 : (2 : Int) ≤ (t.kids.length : Int) := by omega
            have z0 := (E.out.cell (p := ⟨b1, off1, none⟩) hS1).trans x0
            have z1 := (E.out.cell (p := ⟨b1, off1 + 1, none⟩) hS1).trans x1
            have z2 := (E.out.cell (p := ⟨b1, off1 + 2, none⟩) hS1).trans x2
            have z3 := (E.out.cell (p := ⟨b1, off1 + 3, none⟩) hS1).trans x3
            have z4 := (E.out.cell (p := ⟨b1, off1 + 4, none⟩) hS1).trans x4
            rw [EQ.out] at z0 z1 z2 z3 z4
            clear hxr hs hatx x0 x1 x2 x3 x4 hll hd2
            cases hxe : x.exp
            · have hx2 := Lib.hid (show t.exp = false by rw [hx.out, hxe]; rfl)
              have HXV := Lib.hid (fun (wx : World) (hb : Below w0.heap.size w0 wx) => HX.out wx hb)
              rw [hxe] at HXV
              clear hxe
              go_enter Try.func105, Try.ntmps105
              go_wp2_with fail
              go_quiet (fail)
              go_wp2_with fail
              rw [← EQ.out]
              refine (HXV.out _ (belowN (Below.refl _ _) _)).mono ?_
              rintro e w9 ⟨rfl, hb9⟩
              have B9 := Lib.hid ((belowN (Below.refl w0.heap.size w0) _).trans hb9)
              have R9 := Lib.hid (R.out.below B9.out R.out.lt)
              have hc9 := fun i => R9.out.cell i
              clear hb9
              go_wp2_with fail
              go_ret
              first | exact ⟨ret_bool (hx2.out.symm), E.out.trans (B7.out.mono E.out.size)⟩ | exact ⟨ret_bool (hx2.out.symm), E.out.trans (B8.out.mono E.out.size)⟩ | exact ⟨ret_bool (hx2.out.symm), E.out.trans (B9.out.mono E.out.size)⟩ | exact ⟨ret_bool (hx2.out.symm), E.out⟩ | exact ⟨ret_bool (hx2.out.symm), belowN E.out _⟩ | exact ⟨ret_bool (hx2.out.symm), (belowN E.out _).drew⟩ | exact ⟨ret_bool (hx2.out.symm), (Below.refl _ _).alloc (Nat.le_refl _) _⟩ | exact ⟨ret_bool (hx2.out.symm), belowN ((Below.refl _ _).alloc (Nat.le_refl _) _) _⟩
            · have hx2 := Lib.hid (show t.exp = r.all GNode.alt by rw [hx.out, hxe]; rfl)
              have HXV := Lib.hid (fun (wx : World) (hb : Below w0.heap.size w0 wx) => HX.out wx hb)
              rw [hxe] at HXV
              clear hxe
              go_enter Try.func105, Try.ntmps105
              go_wp2_with fail
              go_quiet (fail)
              go_wp2_with fail
              rw [← EQ.out]
              refine (HXV.out _ (belowN (Below.refl _ _) _)).mono ?_
              rintro e w9 ⟨rfl, hb9⟩
              have B9 := Lib.hid ((belowN (Below.refl w0.heap.size w0) _).trans hb9)
              have R9 := Lib.hid (R.out.below B9.out R.out.lt)
              have hc9 := fun i => R9.out.cell i
              clear hb9
              go_wp2_with fail
              refine (HAR.out _ B9.out).mono ?_
              rintro e w8 ⟨rfl, hb8⟩
              have B8 := Lib.hid (B9.out.trans (hb8.mono B9.out.size))
              clear hb8
              go_wp2_with fail
              go_ret
              first | exact ⟨ret_bool (hx2.out.symm), E.out.trans (B7.out.mono E.out.size)⟩ | exact ⟨ret_bool (hx2.out.symm), E.out.trans (B8.out.mono E.out.size)⟩ | exact ⟨ret_bool (hx2.out.symm), E.out.trans (B9.out.mono E.out.size)⟩ | exact ⟨ret_bool (hx2.out.symm), E.out⟩ | exact ⟨ret_bool (hx2.out.symm), belowN E.out _⟩ | exact ⟨ret_bool (hx2.out.symm), (belowN E.out _).drew⟩ | exact ⟨ret_bool (hx2.out.symm), (Below.refl _ _).alloc (Nat.le_refl _) _⟩ | exact ⟨ret_bool (hx2.out.symm), belowN ((Below.refl _ _).alloc (Nat.le_refl _) _) _⟩
          · have hd2 : decide (2 ≤ t.kids.length) = false := decide_eq_false h2
            have hx := Lib.hid (show t.exp = false by rw [hxc.out, hd2]; rfl)
            go_enter Try.func105, Try.ntmps105
            go_wp2_with fail
            go_quiet (fail)
            go_wp2_with fail
            go_ret
            first | exact ⟨ret_bool (hx.out.symm), E.out.trans (B7.out.mono E.out.size)⟩ | exact ⟨ret_bool (hx.out.symm), E.out.trans (B8.out.mono E.out.size)⟩ | exact ⟨ret_bool (hx.out.symm), E.out.trans (B9.out.mono E.out.size)⟩ | exact ⟨ret_bool (hx.out.symm), E.out⟩ | exact ⟨ret_bool (hx.out.symm), belowN E.out _⟩ | exact ⟨ret_bool (hx.out.symm), (belowN E.out _).drew⟩ | exact ⟨ret_bool (hx.out.symm), (Below.refl _ _).alloc (Nat.le_refl _) _⟩ | exact ⟨ret_bool (hx.out.symm), belowN ((Below.refl _ _).alloc (Nat.le_refl _) _) _⟩

set_option maxRecDepth 20000 in
theorem implExp_o (t : GNode) (A1 : Option Addr) (c1 : Nat) (w : World) (o1 : ¬ t.op = 1) (o2 : ¬ t.op = 2) (o3 : ¬ t.op = 3) (o16 : ¬ t.op = 16) (o5 : ¬ t.op = 5) (o6 : ¬ t.op = 6) (o4 : ¬ t.op = 4) (o10 : ¬ t.op = 10) (o11 : ¬ t.op = 11) (o12 : ¬ t.op = 12) (o13 : ¬ t.op = 13) (o14 : ¬ t.op = 14) (o9 : ¬ t.op = 9) (o15 : ¬ t.op = 15) (o7 : ¬ t.op = 7)
    (HKK : ∀ x ∈ t.kids, ∀ (A2 : Option Addr) (c2 : Nat) (w2 : World), GNode.At w2 (Lt w2.heap.size) A2 c2 x → Calls Try.prog 105 #[.agg #[.int .i64 x.op, .int .i64 x.n, .string x.s, .string x.t, .slice A2 x.kids.length c2]] w2 fun e w' => e = .returned (.bool x.exp) ∧ Below w2.heap.size w2 w')
    (HK2 : ∀ y ∈ t.kids, ∀ (A2 : Option Addr) (c2 : Nat) (w2 : World), GNode.At w2 (Lt w2.heap.size) A2 c2 y → Calls Try.prog 197 #[.agg #[.int .i64 y.op, .int .i64 y.n, .string y.s, .string y.t, .slice A2 y.kids.length c2]] w2 fun e w' => e = .returned (.bool y.alt) ∧ Below w2.heap.size w2 w')
    (ht : GNode.At w (Lt w.heap.size) A1 c1 t) :
    Calls Try.prog 105 #[.agg #[.int .i64 t.op, .int .i64 t.n, .string t.s, .string t.t, .slice A1 t.kids.length c1]] w fun e w' => e = .returned (.bool t.exp) ∧ Below w.heap.size w w' := by
    obtain ⟨h0, h1, h2, h3, hs⟩ := id ht
    have hsz2 : t.s.size ≤ 9223372036854775807 := by unfold maxLen at h2; omega
    have hsz3 : t.t.size ≤ 9223372036854775807 := by unfold maxLen at h3; omega
    have hlen : t.kids.length ≤ 9223372036854775807 := by simpa using hs.len
    have hte := Lib.hid t.exp_eq
    obtain ⟨w0, e0⟩ : ∃ w0, w0 = w.alloc (.cells #[.int .i64 t.op, .int .i64 t.n, .string t.s, .string t.t, .slice A1 t.kids.length c1] 49) := ⟨_, rfl⟩
    have E := Lib.hid (show Below w.heap.size w w0 by rw [e0]; exact (Below.refl _ _).alloc (Nat.le_refl _) _)
    have R := Lib.hid (show Row w0 w.heap.size 49 #[.int .i64 t.op, .int .i64 t.n, .string t.s, .string t.t, .slice A1 t.kids.length c1] by rw [e0]; exact Row.new' _ _ _ rfl)
    have EQ := Lib.hid e0
    have HAN := Lib.hid (fun (wx : World) (hb : Below w0.heap.size w0 wx) => implAllNodes 105 (enters Try.func105 (by kernel_rfl) (by kernel_rfl)) #[] GNode.exp t.kids A1 c1 wx (hs.below (E.out.trans (hb.mono E.out.size)) (Nat.le_trans E.out.size hb.size)) (fun x hx A2 c2 w2 _ hx2 => HKK x hx A2 c2 w2 hx2))
    have HKH := Lib.hid HKK
    have HAL := Lib.hid HK2
    have HSS := Lib.hid hs
    have hc0 := fun i => R.out.cell i
    clear HKK HK2 e0 h0 h1 h2 h3 hs ht
    cases a : (t.n == 0)
    · skip
      have iv : inB t.op 10 14 = false := decide_eq_false (by omega)
      have hv := Lib.hid (show exp1 t.op t.n t.s t.t t.kids.length = false from by unfold exp1; simp [o1, o2, o3, o16, o5, o6, o4, o10, o11, o12, o13, o14, o9, o15, o7, a, iv])
      have hx := Lib.hid (show t.exp = false by rw [hte.out, hv.out]; rfl)
      clear iv
      have p1 : (t.op == 1) = false := by simpa using o1
      have r1 : (t.op != 1) = true := by simp [bne, p1]
      have p2 : (t.op == 2) = false := by simpa using o2
      have r2 : (t.op != 2) = true := by simp [bne, p2]
      have p3 : (t.op == 3) = false := by simpa using o3
      have r3 : (t.op != 3) = true := by simp [bne, p3]
      have p16 : (t.op == 16) = false := by simpa using o16
      have r16 : (t.op != 16) = true := by simp [bne, p16]
      have p5 : (t.op == 5) = false := by simpa using o5
      have r5 : (t.op != 5) = true := by simp [bne, p5]
      have p6 : (t.op == 6) = false := by simpa using o6
      have r6 : (t.op != 6) = true := by simp [bne, p6]
      have p4 : (t.op == 4) = false := by simpa using o4
      have r4 : (t.op != 4) = true := by simp [bne, p4]
      have p10 : (t.op == 10) = false := by simpa using o10
      have r10 : (t.op != 10) = true := by simp [bne, p10]
      have p11 : (t.op == 11) = false := by simpa using o11
      have r11 : (t.op != 11) = true := by simp [bne, p11]
      have p12 : (t.op == 12) = false := by simpa using o12
      have r12 : (t.op != 12) = true := by simp [bne, p12]
      have p13 : (t.op == 13) = false := by simpa using o13
      have r13 : (t.op != 13) = true := by simp [bne, p13]
      have p14 : (t.op == 14) = false := by simpa using o14
      have r14 : (t.op != 14) = true := by simp [bne, p14]
      have p9 : (t.op == 9) = false := by simpa using o9
      have r9 : (t.op != 9) = true := by simp [bne, p9]
      have p15 : (t.op == 15) = false := by simpa using o15
      have r15 : (t.op != 15) = true := by simp [bne, p15]
      have p7 : (t.op == 7) = false := by simpa using o7
      have r7 : (t.op != 7) = true := by simp [bne, p7]
      clear o1
      clear o2
      clear o3
      clear o16
      clear o5
      clear o6
      clear o4
      clear o10
      clear o11
      clear o12
      clear o13
      clear o14
      clear o9
      clear o15
      clear o7
      go_enter Try.func105, Try.ntmps105
      go_wp2_with fail
      go_quiet (fail)
      go_wp2_with fail
      go_ret
      first | exact ⟨ret_bool (hx.out.symm), E.out.trans (B7.out.mono E.out.size)⟩ | exact ⟨ret_bool (hx.out.symm), E.out.trans (B8.out.mono E.out.size)⟩ | exact ⟨ret_bool (hx.out.symm), E.out.trans (B9.out.mono E.out.size)⟩ | exact ⟨ret_bool (hx.out.symm), E.out⟩ | exact ⟨ret_bool (hx.out.symm), belowN E.out _⟩ | exact ⟨ret_bool (hx.out.symm), (belowN E.out _).drew⟩ | exact ⟨ret_bool (hx.out.symm), (Below.refl _ _).alloc (Nat.le_refl _) _⟩ | exact ⟨ret_bool (hx.out.symm), belowN ((Below.refl _ _).alloc (Nat.le_refl _) _) _⟩
    · skip
      cases b : (t.s.toList.isEmpty)
      · skip
        have iv : inB t.op 10 14 = false := decide_eq_false (by omega)
        have hv := Lib.hid (show exp1 t.op t.n t.s t.t t.kids.length = false from by unfold exp1; simp [o1, o2, o3, o16, o5, o6, o4, o10, o11, o12, o13, o14, o9, o15, o7, a, b, iv])
        have hx := Lib.hid (show t.exp = false by rw [hte.out, hv.out]; rfl)
        clear iv
        have p1 : (t.op == 1) = false := by simpa using o1
        have r1 : (t.op != 1) = true := by simp [bne, p1]
        have p2 : (t.op == 2) = false := by simpa using o2
        have r2 : (t.op != 2) = true := by simp [bne, p2]
        have p3 : (t.op == 3) = false := by simpa using o3
        have r3 : (t.op != 3) = true := by simp [bne, p3]
        have p16 : (t.op == 16) = false := by simpa using o16
        have r16 : (t.op != 16) = true := by simp [bne, p16]
        have p5 : (t.op == 5) = false := by simpa using o5
        have r5 : (t.op != 5) = true := by simp [bne, p5]
        have p6 : (t.op == 6) = false := by simpa using o6
        have r6 : (t.op != 6) = true := by simp [bne, p6]
        have p4 : (t.op == 4) = false := by simpa using o4
        have r4 : (t.op != 4) = true := by simp [bne, p4]
        have p10 : (t.op == 10) = false := by simpa using o10
        have r10 : (t.op != 10) = true := by simp [bne, p10]
        have p11 : (t.op == 11) = false := by simpa using o11
        have r11 : (t.op != 11) = true := by simp [bne, p11]
        have p12 : (t.op == 12) = false := by simpa using o12
        have r12 : (t.op != 12) = true := by simp [bne, p12]
        have p13 : (t.op == 13) = false := by simpa using o13
        have r13 : (t.op != 13) = true := by simp [bne, p13]
        have p14 : (t.op == 14) = false := by simpa using o14
        have r14 : (t.op != 14) = true := by simp [bne, p14]
        have p9 : (t.op == 9) = false := by simpa using o9
        have r9 : (t.op != 9) = true := by simp [bne, p9]
        have p15 : (t.op == 15) = false := by simpa using o15
        have r15 : (t.op != 15) = true := by simp [bne, p15]
        have p7 : (t.op == 7) = false := by simpa using o7
        have r7 : (t.op != 7) = true := by simp [bne, p7]
        clear o1
        clear o2
        clear o3
        clear o16
        clear o5
        clear o6
        clear o4
        clear o10
        clear o11
        clear o12
        clear o13
        clear o14
        clear o9
        clear o15
        clear o7
        go_enter Try.func105, Try.ntmps105
        go_wp2_with fail
        go_quiet (fail)
        go_wp2_with fail
        go_ret
        first | exact ⟨ret_bool (hx.out.symm), E.out.trans (B7.out.mono E.out.size)⟩ | exact ⟨ret_bool (hx.out.symm), E.out.trans (B8.out.mono E.out.size)⟩ | exact ⟨ret_bool (hx.out.symm), E.out.trans (B9.out.mono E.out.size)⟩ | exact ⟨ret_bool (hx.out.symm), E.out⟩ | exact ⟨ret_bool (hx.out.symm), belowN E.out _⟩ | exact ⟨ret_bool (hx.out.symm), (belowN E.out _).drew⟩ | exact ⟨ret_bool (hx.out.symm), (Below.refl _ _).alloc (Nat.le_refl _) _⟩ | exact ⟨ret_bool (hx.out.symm), belowN ((Below.refl _ _).alloc (Nat.le_refl _) _) _⟩
      · skip
        cases te : (t.t.toList.isEmpty)
        · skip
          have iv : inB t.op 10 14 = false := decide_eq_false (by omega)
          have hv := Lib.hid (show exp1 t.op t.n t.s t.t t.kids.length = false from by unfold exp1; simp [o1, o2, o3, o16, o5, o6, o4, o10, o11, o12, o13, o14, o9, o15, o7, a, b, te, iv])
          have hx := Lib.hid (show t.exp = false by rw [hte.out, hv.out]; rfl)
          clear iv
          have p1 : (t.op == 1) = false := by simpa using o1
          have r1 : (t.op != 1) = true := by simp [bne, p1]
          have p2 : (t.op == 2) = false := by simpa using o2
          have r2 : (t.op != 2) = true := by simp [bne, p2]
          have p3 : (t.op == 3) = false := by simpa using o3
          have r3 : (t.op != 3) = true := by simp [bne, p3]
          have p16 : (t.op == 16) = false := by simpa using o16
          have r16 : (t.op != 16) = true := by simp [bne, p16]
          have p5 : (t.op == 5) = false := by simpa using o5
          have r5 : (t.op != 5) = true := by simp [bne, p5]
          have p6 : (t.op == 6) = false := by simpa using o6
          have r6 : (t.op != 6) = true := by simp [bne, p6]
          have p4 : (t.op == 4) = false := by simpa using o4
          have r4 : (t.op != 4) = true := by simp [bne, p4]
          have p10 : (t.op == 10) = false := by simpa using o10
          have r10 : (t.op != 10) = true := by simp [bne, p10]
          have p11 : (t.op == 11) = false := by simpa using o11
          have r11 : (t.op != 11) = true := by simp [bne, p11]
          have p12 : (t.op == 12) = false := by simpa using o12
          have r12 : (t.op != 12) = true := by simp [bne, p12]
          have p13 : (t.op == 13) = false := by simpa using o13
          have r13 : (t.op != 13) = true := by simp [bne, p13]
          have p14 : (t.op == 14) = false := by simpa using o14
          have r14 : (t.op != 14) = true := by simp [bne, p14]
          have p9 : (t.op == 9) = false := by simpa using o9
          have r9 : (t.op != 9) = true := by simp [bne, p9]
          have p15 : (t.op == 15) = false := by simpa using o15
          have r15 : (t.op != 15) = true := by simp [bne, p15]
          have p7 : (t.op == 7) = false := by simpa using o7
          have r7 : (t.op != 7) = true := by simp [bne, p7]
          clear o1
          clear o2
          clear o3
          clear o16
          clear o5
          clear o6
          clear o4
          clear o10
          clear o11
          clear o12
          clear o13
          clear o14
          clear o9
          clear o15
          clear o7
          go_enter Try.func105, Try.ntmps105
          go_wp2_with fail
          go_quiet (fail)
          go_wp2_with fail
          go_ret
          first | exact ⟨ret_bool (hx.out.symm), E.out.trans (B7.out.mono E.out.size)⟩ | exact ⟨ret_bool (hx.out.symm), E.out.trans (B8.out.mono E.out.size)⟩ | exact ⟨ret_bool (hx.out.symm), E.out.trans (B9.out.mono E.out.size)⟩ | exact ⟨ret_bool (hx.out.symm), E.out⟩ | exact ⟨ret_bool (hx.out.symm), belowN E.out _⟩ | exact ⟨ret_bool (hx.out.symm), (belowN E.out _).drew⟩ | exact ⟨ret_bool (hx.out.symm), (Below.refl _ _).alloc (Nat.le_refl _) _⟩ | exact ⟨ret_bool (hx.out.symm), belowN ((Below.refl _ _).alloc (Nat.le_refl _) _) _⟩
        · skip
          have iv : inB t.op 10 14 = false := decide_eq_false (by omega)
          have hv := Lib.hid (show exp1 t.op t.n t.s t.t t.kids.length = false from by unfold exp1; simp [o1, o2, o3, o16, o5, o6, o4, o10, o11, o12, o13, o14, o9, o15, o7, a, b, te, iv])
          have hx := Lib.hid (show t.exp = false by rw [hte.out, hv.out]; rfl)
          have hm1 : ((t.kids.length : Int) == -1) = false := beq_eq_false_iff_ne.2 (by omega)
          clear iv
          have p1 : (t.op == 1) = false := by simpa using o1
          have r1 : (t.op != 1) = true := by simp [bne, p1]
          have p2 : (t.op == 2) = false := by simpa using o2
          have r2 : (t.op != 2) = true := by simp [bne, p2]
          have p3 : (t.op == 3) = false := by simpa using o3
          have r3 : (t.op != 3) = true := by simp [bne, p3]
          have p16 : (t.op == 16) = false := by simpa using o16
          have r16 : (t.op != 16) = true := by simp [bne, p16]
          have p5 : (t.op == 5) = false := by simpa using o5
          have r5 : (t.op != 5) = true := by simp [bne, p5]
          have p6 : (t.op == 6) = false := by simpa using o6
          have r6 : (t.op != 6) = true := by simp [bne, p6]
          have p4 : (t.op == 4) = false := by simpa using o4
          have r4 : (t.op != 4) = true := by simp [bne, p4]
          have p10 : (t.op == 10) = false := by simpa using o10
          have r10 : (t.op != 10) = true := by simp [bne, p10]
          have p11 : (t.op == 11) = false := by simpa using o11
          have r11 : (t.op != 11) = true := by simp [bne, p11]
          have p12 : (t.op == 12) = false := by simpa using o12
          have r12 : (t.op != 12) = true := by simp [bne, p12]
          have p13 : (t.op == 13) = false := by simpa using o13
          have r13 : (t.op != 13) = true := by simp [bne, p13]
          have p14 : (t.op == 14) = false := by simpa using o14
          have r14 : (t.op != 14) = true := by simp [bne, p14]
          have p9 : (t.op == 9) = false := by simpa using o9
          have r9 : (t.op != 9) = true := by simp [bne, p9]
          have p15 : (t.op == 15) = false := by simpa using o15
          have r15 : (t.op != 15) = true := by simp [bne, p15]
          have p7 : (t.op == 7) = false := by simpa using o7
          have r7 : (t.op != 7) = true := by simp [bne, p7]
          clear o1
          clear o2
          clear o3
          clear o16
          clear o5
          clear o6
          clear o4
          clear o10
          clear o11
          clear o12
          clear o13
          clear o14
          clear o9
          clear o15
          clear o7
          go_enter Try.func105, Try.ntmps105
          go_wp2_with fail
          go_quiet (fail)
          go_wp2_with fail
          go_ret
          first | exact ⟨ret_bool (hx.out.symm), E.out.trans (B7.out.mono E.out.size)⟩ | exact ⟨ret_bool (hx.out.symm), E.out.trans (B8.out.mono E.out.size)⟩ | exact ⟨ret_bool (hx.out.symm), E.out.trans (B9.out.mono E.out.size)⟩ | exact ⟨ret_bool (hx.out.symm), E.out⟩ | exact ⟨ret_bool (hx.out.symm), belowN E.out _⟩ | exact ⟨ret_bool (hx.out.symm), (belowN E.out _).drew⟩ | exact ⟨ret_bool (hx.out.symm), (Below.refl _ _).alloc (Nat.le_refl _) _⟩ | exact ⟨ret_bool (hx.out.symm), belowN ((Below.refl _ _).alloc (Nat.le_refl _) _) _⟩

end Go.Proofs.Ytgbcdfeflgnogaa
