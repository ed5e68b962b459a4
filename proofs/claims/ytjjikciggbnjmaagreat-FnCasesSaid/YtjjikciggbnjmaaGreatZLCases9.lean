/- Texts of the claim LCases in one: NodeS Up TidyS. Conditions: none but bounds on sizes. -/
import Derived.Test.YtjjikciggbnjmaaGreatZLCases8
import Derived.Deep.RegionLaw
import Derived.Deep.DeepMust
import Derived.Deep.RegionHeld3
import Derived.Test.YtjjikciggbnjmaaGreatZLCases0
import Derived.BigQuiet
import Derived.Test.YtjjikciggbnjmaaGreatZLCases7
import Derived.Test.YtjjikciggbnjmaaGreatZLCases2
namespace Go.Proofs.YtjjikciggbnjmaaGreat
set_option maxRecDepth 20000
set_option linter.unusedVariables false
set_option linter.unusedSimpArgs false
open Go.RowKit
set_option maxHeartbeats 40000000
theorem bT {a b c : World} (E : Hid (Below a.heap.size a b)) (K : Hid (Below b.heap.size b c)) : Below a.heap.size a c := E.out.trans (K.out.mono E.out.size)
theorem bA (a : World) (o : Obj) : Below a.heap.size a (a.alloc o) := (Below.refl _ _).alloc (Nat.le_refl _) _
theorem opf0 {t : GNode} (h : t.op = 1) : (t.op == 1) = true ∧ (t.op != 1) = false ∧ (t.op == 2) = false ∧ (t.op != 2) = true ∧ (t.op == 3) = false ∧ (t.op != 3) = true ∧ (t.op == 4) = false ∧ (t.op != 4) = true ∧ (t.op == 5) = false ∧ (t.op != 5) = true ∧ (t.op == 6) = false ∧ (t.op != 6) = true ∧ (t.op == 7) = false ∧ (t.op != 7) = true ∧ (t.op == 9) = false ∧ (t.op != 9) = true ∧ (t.op == 15) = false ∧ (t.op != 15) = true ∧ (t.op == 16) = false ∧ (t.op != 16) = true := by
 rw [h]; exact ⟨rfl, rfl, rfl, rfl, rfl, rfl, rfl, rfl, rfl, rfl, rfl, rfl, rfl, rfl, rfl, rfl, rfl, rfl, rfl, rfl⟩
theorem opf1 {t : GNode} (h : t.op = 2) : (t.op == 1) = false ∧ (t.op != 1) = true ∧ (t.op == 2) = true ∧ (t.op != 2) = false ∧ (t.op == 3) = false ∧ (t.op != 3) = true ∧ (t.op == 4) = false ∧ (t.op != 4) = true ∧ (t.op == 5) = false ∧ (t.op != 5) = true ∧ (t.op == 6) = false ∧ (t.op != 6) = true ∧ (t.op == 7) = false ∧ (t.op != 7) = true ∧ (t.op == 9) = false ∧ (t.op != 9) = true ∧ (t.op == 15) = false ∧ (t.op != 15) = true ∧ (t.op == 16) = false ∧ (t.op != 16) = true := by
 rw [h]; exact ⟨rfl, rfl, rfl, rfl, rfl, rfl, rfl, rfl, rfl, rfl, rfl, rfl, rfl, rfl, rfl, rfl, rfl, rfl, rfl, rfl⟩
theorem opf2 {t : GNode} (h : t.op = 3) : (t.op == 1) = false ∧ (t.op != 1) = true ∧ (t.op == 2) = false ∧ (t.op != 2) = true ∧ (t.op == 3) = true ∧ (t.op != 3) = false ∧ (t.op == 4) = false ∧ (t.op != 4) = true ∧ (t.op == 5) = false ∧ (t.op != 5) = true ∧ (t.op == 6) = false ∧ (t.op != 6) = true ∧ (t.op == 7) = false ∧ (t.op != 7) = true ∧ (t.op == 9) = false ∧ (t.op != 9) = true ∧ (t.op == 15) = false ∧ (t.op != 15) = true ∧ (t.op == 16) = false ∧ (t.op != 16) = true := by
 rw [h]; exact ⟨rfl, rfl, rfl, rfl, rfl, rfl, rfl, rfl, rfl, rfl, rfl, rfl, rfl, rfl, rfl, rfl, rfl, rfl, rfl, rfl⟩
theorem opf3 {t : GNode} (h : t.op = 5) : (t.op == 1) = false ∧ (t.op != 1) = true ∧ (t.op == 2) = false ∧ (t.op != 2) = true ∧ (t.op == 3) = false ∧ (t.op != 3) = true ∧ (t.op == 4) = false ∧ (t.op != 4) = true ∧ (t.op == 5) = true ∧ (t.op != 5) = false ∧ (t.op == 6) = false ∧ (t.op != 6) = true ∧ (t.op == 7) = false ∧ (t.op != 7) = true ∧ (t.op == 9) = false ∧ (t.op != 9) = true ∧ (t.op == 15) = false ∧ (t.op != 15) = true ∧ (t.op == 16) = false ∧ (t.op != 16) = true := by
 rw [h]; exact ⟨rfl, rfl, rfl, rfl, rfl, rfl, rfl, rfl, rfl, rfl, rfl, rfl, rfl, rfl, rfl, rfl, rfl, rfl, rfl, rfl⟩
theorem opf4 {t : GNode} (h : t.op = 6) : (t.op == 1) = false ∧ (t.op != 1) = true ∧ (t.op == 2) = false ∧ (t.op != 2) = true ∧ (t.op == 3) = false ∧ (t.op != 3) = true ∧ (t.op == 4) = false ∧ (t.op != 4) = true ∧ (t.op == 5) = false ∧ (t.op != 5) = true ∧ (t.op == 6) = true ∧ (t.op != 6) = false ∧ (t.op == 7) = false ∧ (t.op != 7) = true ∧ (t.op == 9) = false ∧ (t.op != 9) = true ∧ (t.op == 15) = false ∧ (t.op != 15) = true ∧ (t.op == 16) = false ∧ (t.op != 16) = true := by
 rw [h]; exact ⟨rfl, rfl, rfl, rfl, rfl, rfl, rfl, rfl, rfl, rfl, rfl, rfl, rfl, rfl, rfl, rfl, rfl, rfl, rfl, rfl⟩
theorem opf5 {t : GNode} (h : t.op = 7) : (t.op == 1) = false ∧ (t.op != 1) = true ∧ (t.op == 2) = false ∧ (t.op != 2) = true ∧ (t.op == 3) = false ∧ (t.op != 3) = true ∧ (t.op == 4) = false ∧ (t.op != 4) = true ∧ (t.op == 5) = false ∧ (t.op != 5) = true ∧ (t.op == 6) = false ∧ (t.op != 6) = true ∧ (t.op == 7) = true ∧ (t.op != 7) = false ∧ (t.op == 9) = false ∧ (t.op != 9) = true ∧ (t.op == 15) = false ∧ (t.op != 15) = true ∧ (t.op == 16) = false ∧ (t.op != 16) = true := by
 rw [h]; exact ⟨rfl, rfl, rfl, rfl, rfl, rfl, rfl, rfl, rfl, rfl, rfl, rfl, rfl, rfl, rfl, rfl, rfl, rfl, rfl, rfl⟩
theorem opf6 {t : GNode} (h : t.op = 9) : (t.op == 1) = false ∧ (t.op != 1) = true ∧ (t.op == 2) = false ∧ (t.op != 2) = true ∧ (t.op == 3) = false ∧ (t.op != 3) = true ∧ (t.op == 4) = false ∧ (t.op != 4) = true ∧ (t.op == 5) = false ∧ (t.op != 5) = true ∧ (t.op == 6) = false ∧ (t.op != 6) = true ∧ (t.op == 7) = false ∧ (t.op != 7) = true ∧ (t.op == 9) = true ∧ (t.op != 9) = false ∧ (t.op == 15) = false ∧ (t.op != 15) = true ∧ (t.op == 16) = false ∧ (t.op != 16) = true := by
 rw [h]; exact ⟨rfl, rfl, rfl, rfl, rfl, rfl, rfl, rfl, rfl, rfl, rfl, rfl, rfl, rfl, rfl, rfl, rfl, rfl, rfl, rfl⟩
theorem opf7 {t : GNode} (h : t.op = 15) : (t.op == 1) = false ∧ (t.op != 1) = true ∧ (t.op == 2) = false ∧ (t.op != 2) = true ∧ (t.op == 3) = false ∧ (t.op != 3) = true ∧ (t.op == 4) = false ∧ (t.op != 4) = true ∧ (t.op == 5) = false ∧ (t.op != 5) = true ∧ (t.op == 6) = false ∧ (t.op != 6) = true ∧ (t.op == 7) = false ∧ (t.op != 7) = true ∧ (t.op == 9) = false ∧ (t.op != 9) = true ∧ (t.op == 15) = true ∧ (t.op != 15) = false ∧ (t.op == 16) = false ∧ (t.op != 16) = true := by
 rw [h]; exact ⟨rfl, rfl, rfl, rfl, rfl, rfl, rfl, rfl, rfl, rfl, rfl, rfl, rfl, rfl, rfl, rfl, rfl, rfl, rfl, rfl⟩
theorem opf8 {t : GNode} (h : t.op = 16) : (t.op == 1) = false ∧ (t.op != 1) = true ∧ (t.op == 2) = false ∧ (t.op != 2) = true ∧ (t.op == 3) = false ∧ (t.op != 3) = true ∧ (t.op == 4) = false ∧ (t.op != 4) = true ∧ (t.op == 5) = false ∧ (t.op != 5) = true ∧ (t.op == 6) = false ∧ (t.op != 6) = true ∧ (t.op == 7) = false ∧ (t.op != 7) = true ∧ (t.op == 9) = false ∧ (t.op != 9) = true ∧ (t.op == 15) = false ∧ (t.op != 15) = true ∧ (t.op == 16) = true ∧ (t.op != 16) = false := by
 rw [h]; exact ⟨rfl, rfl, rfl, rfl, rfl, rfl, rfl, rfl, rfl, rfl, rfl, rfl, rfl, rfl, rfl, rfl, rfl, rfl, rfl, rfl⟩
theorem opf9 {t : GNode} (h : t.op = 4) : (t.op == 1) = false ∧ (t.op != 1) = true ∧ (t.op == 2) = false ∧ (t.op != 2) = true ∧ (t.op == 3) = false ∧ (t.op != 3) = true ∧ (t.op == 4) = true ∧ (t.op != 4) = false ∧ (t.op == 5) = false ∧ (t.op != 5) = true ∧ (t.op == 6) = false ∧ (t.op != 6) = true ∧ (t.op == 7) = false ∧ (t.op != 7) = true ∧ (t.op == 9) = false ∧ (t.op != 9) = true ∧ (t.op == 15) = false ∧ (t.op != 15) = true ∧ (t.op == 16) = false ∧ (t.op != 16) = true := by
 rw [h]; exact ⟨rfl, rfl, rfl, rfl, rfl, rfl, rfl, rfl, rfl, rfl, rfl, rfl, rfl, rfl, rfl, rfl, rfl, rfl, rfl, rfl⟩
theorem specExp (k : Nat) : ∀ (t : GNode) (A1 : Option Addr) (c1 : Nat) (w : World), t.bulk < k → GNode.At w (Lt w.heap.size) A1 c1 t →
 Calls Tryz.prog 91 #[.agg #[.int .i64 t.op, .int .i64 t.n, .string t.s, .string t.t, .slice A1 t.kids.length c1]] w fun e w' => e = .returned (.bool t.exp) ∧ Below w.heap.size w w' := by
 induction k with
 | zero => intro t A1 c1 w h; omega
 | succ k ih =>
  intro t A1 c1 w hk0 ht
  obtain ⟨h0, h1, h2, h3, hs⟩ := id ht
  have hsz2 : t.s.size ≤ 9223372036854775807 := by unfold maxLen at h2; omega
  have hsz3 : t.t.size ≤ 9223372036854775807 := by unfold maxLen at h3; omega
  have hlen : t.kids.length ≤ 9223372036854775807 := by simpa using hs.len
  have hte := LH t.exp_eq
  have hcv := LH (caseV_eq t.kids)
  have hbe := t.bulk_eq
  obtain ⟨w0, e0⟩ : ∃ w0, w0 = w.alloc (.cells #[.int .i64 t.op, .int .i64 t.n, .string t.s, .string t.t, .slice A1 t.kids.length c1] 39) := ⟨_, rfl⟩
  have E := LH (show Below w.heap.size w w0 by rw [e0]; exact (Below.refl _ _).alloc (Nat.le_refl _) _)
  have R := LH (show Row w0 w.heap.size 39 #[.int .i64 t.op, .int .i64 t.n, .string t.s, .string t.t, .slice A1 t.kids.length c1] by rw [e0]; exact Row.new' _ _ _ rfl)
  have EQ := LH e0
  have HKK : ∀ x ∈ t.kids, ∀ (A2 : Option Addr) (c2 : Nat) (w2 : World), GNode.At w2 (Lt w2.heap.size) A2 c2 x → Calls Tryz.prog 91 #[.agg #[.int .i64 x.op, .int .i64 x.n, .string x.s, .string x.t, .slice A2 x.kids.length c2]] w2 fun e w' => e = .returned (.bool x.exp) ∧ Below w2.heap.size w2 w' :=
   fun x hx A2 c2 w2 hx2 => ih x A2 c2 w2 (by have := bulkL_mem GNode.bulk t.kids x hx; omega) hx2
  have HK2 : ∀ y ∈ t.kids, ∀ x ∈ y.kids, ∀ (A2 : Option Addr) (c2 : Nat) (w2 : World), GNode.At w2 (Lt w2.heap.size) A2 c2 x → Calls Tryz.prog 91 #[.agg #[.int .i64 x.op, .int .i64 x.n, .string x.s, .string x.t, .slice A2 x.kids.length c2]] w2 fun e w' => e = .returned (.bool x.exp) ∧ Below w2.heap.size w2 w' :=
   fun y hy x hx A2 c2 w2 hx2 => ih x A2 c2 w2 (by have := bulkL_mem GNode.bulk t.kids y hy; have := bulkL_mem GNode.bulk y.kids x hx; have := y.bulk_eq; omega) hx2
  have HES := LH (fun (wx : World) (hb : Below w0.heap.size w0 wx) => specEs t A1 c1 wx HKK (ht.keep (keep_below (E.out.trans (hb.mono E.out.size)) (Nat.le_trans E.out.size hb.size))))
  have HCS := LH (fun (wx : World) (hb : Below w0.heap.size w0 wx) => specCase t A1 c1 wx HKK HK2 (ht.keep (keep_below (E.out.trans (hb.mono E.out.size)) (Nat.le_trans E.out.size hb.size))))
  have hc0 := fun i => R.out.cell i
  clear HKK HK2 ih hbe e0 h0 h1 h2 h3 hs ht
  by_cases o1 : t.op = 1
  ·
   skip
   cases te : (t.t.toList.isEmpty)
   ·
    skip
    have hv := LH (show exp1 t.op t.n t.s t.t t.kids.length = false from by unfold exp1; simp [o1, te])
    have hx := LH (show t.exp = false by rw [hte.out, hv.out]; rfl)
    obtain ⟨p1, r1, p2, r2, p3, r3, p4, r4, p5, r5, p6, r6, p7, r7, p9, r9, p15, r15, p16, r16⟩ := opf0 o1
    clear o1
    go_enter Tryz.func91, Tryz.ntmps91
    go_wp2_with fail
    go_ret
    refine ⟨ret_bool hx.out.symm, ?_⟩
    first | exact bT E B7 | exact bT E B8 | exact bT E B9 | exact E.out | exact belowN E.out _ | exact (belowN E.out _).drew | exact bA _ _ | exact belowN (bA _ _) _
   ·
    skip
    cases b : (t.s.toList.isEmpty)
    ·
     skip
     have hv := LH (show exp1 t.op t.n t.s t.t t.kids.length = false from by unfold exp1; simp [o1, te, b])
     have hx := LH (show t.exp = false by rw [hte.out, hv.out]; rfl)
     obtain ⟨p1, r1, p2, r2, p3, r3, p4, r4, p5, r5, p6, r6, p7, r7, p9, r9, p15, r15, p16, r16⟩ := opf0 o1
     clear o1
     go_enter Tryz.func91, Tryz.ntmps91
     go_wp2_with fail
     go_ret
     refine ⟨ret_bool hx.out.symm, ?_⟩
     first | exact bT E B7 | exact bT E B8 | exact bT E B9 | exact E.out | exact belowN E.out _ | exact (belowN E.out _).drew | exact bA _ _ | exact belowN (bA _ _) _
    ·
     skip
     by_cases hk : t.kids.length = 0
     ·
      skip
      cases v : (inB t.n 0 1073741823)
      ·
       skip
       have hv := LH (show exp1 t.op t.n t.s t.t t.kids.length = false from by unfold exp1; simp [o1, te, b, hk, v])
       have hx := LH (show t.exp = false by rw [hte.out, hv.out]; rfl)
       obtain ⟨p1, r1, p2, r2, p3, r3, p4, r4, p5, r5, p6, r6, p7, r7, p9, r9, p15, r15, p16, r16⟩ := opf0 o1
       clear o1
       have hk1 : (t.kids.length == 0) = true := by simp [hk]
       have hk2 : ((t.kids.length : Int) == 0) = true := by rw [beq_iff_eq]; omega
       have hk6 : ((t.kids.length : Int) != 0) = false := by simp only [bne, hk2]; rfl
       have hk7 : (t.kids.length != 0) = false := by simp only [bne, hk1]; rfl
       have hk3 : ¬ (0 : Int) < (t.kids.length : Int) := by omega
       have hk4 : decide (0 < t.kids.length) = false := by simp [hk]
       have Hhk := LH hk
       clear hk
       have HIN := LH (fun (wx : World) => specIn t.n 0 1073741823 wx)
       rw [v] at HIN
       clear v
       go_enter Tryz.func91, Tryz.ntmps91
       go_wp2_with (first | (go_at_call 87; (try rw [← EQ.out]); with_reducible refine (HIN.out _).mono ?_; rintro e w6 ⟨rfl, rfl⟩))
       go_ret
       refine ⟨ret_bool hx.out.symm, ?_⟩
       first | exact bT E B7 | exact bT E B8 | exact bT E B9 | exact E.out | exact belowN E.out _ | exact (belowN E.out _).drew | exact bA _ _ | exact belowN (bA _ _) _
      ·
       skip
       have hv := LH (show exp1 t.op t.n t.s t.t t.kids.length = true from by unfold exp1; simp [o1, te, b, hk, v])
       have hx := LH (show t.exp = true by rw [hte.out, hv.out, if_neg (by omega), List.eq_nil_of_length_eq_zero hk, GNode.expL]; rfl)
       obtain ⟨p1, r1, p2, r2, p3, r3, p4, r4, p5, r5, p6, r6, p7, r7, p9, r9, p15, r15, p16, r16⟩ := opf0 o1
       clear o1
       have hk1 : (t.kids.length == 0) = true := by simp [hk]
       have hk2 : ((t.kids.length : Int) == 0) = true := by rw [beq_iff_eq]; omega
       have hk6 : ((t.kids.length : Int) != 0) = false := by simp only [bne, hk2]; rfl
       have hk7 : (t.kids.length != 0) = false := by simp only [bne, hk1]; rfl
       have hk3 : ¬ (0 : Int) < (t.kids.length : Int) := by omega
       have hk4 : decide (0 < t.kids.length) = false := by simp [hk]
       have Hhk := LH hk
       clear hk
       have HIN := LH (fun (wx : World) => specIn t.n 0 1073741823 wx)
       rw [v] at HIN
       clear v
       go_enter Tryz.func91, Tryz.ntmps91
       go_wp2_with (first | (go_at_call 87; (try rw [← EQ.out]); with_reducible refine (HIN.out _).mono ?_; rintro e w6 ⟨rfl, rfl⟩))
       go_ret
       refine ⟨ret_bool hx.out.symm, ?_⟩
       first | exact bT E B7 | exact bT E B8 | exact bT E B9 | exact E.out | exact belowN E.out _ | exact (belowN E.out _).drew | exact bA _ _ | exact belowN (bA _ _) _
     ·
      skip
      have hv := LH (show exp1 t.op t.n t.s t.t t.kids.length = false from by unfold exp1; simp [o1, te, b, hk])
      have hx := LH (show t.exp = false by rw [hte.out, hv.out]; rfl)
      obtain ⟨p1, r1, p2, r2, p3, r3, p4, r4, p5, r5, p6, r6, p7, r7, p9, r9, p15, r15, p16, r16⟩ := opf0 o1
      clear o1
      have hk1 : (t.kids.length == 0) = false := by simp [hk]
      have hk2 : ((t.kids.length : Int) == 0) = false := by rw [beq_eq_false_iff_ne]; omega
      have hk6 : ((t.kids.length : Int) != 0) = true := by simp only [bne, hk2]; rfl
      have hk7 : (t.kids.length != 0) = true := by simp only [bne, hk1]; rfl
      have hk3 : (0 : Int) < (t.kids.length : Int) := by omega
      have hk4 : decide (0 < t.kids.length) = true := decide_eq_true (by omega)
      have Hhk := LH hk
      clear hk
      go_enter Tryz.func91, Tryz.ntmps91
      go_wp2_with fail
      go_ret
      refine ⟨ret_bool hx.out.symm, ?_⟩
      first | exact bT E B7 | exact bT E B8 | exact bT E B9 | exact E.out | exact belowN E.out _ | exact (belowN E.out _).drew | exact bA _ _ | exact belowN (bA _ _) _
  ·
   skip
   by_cases o2 : t.op = 2
   ·
    skip
    cases a : (t.n == 0)
    ·
     skip
     have hv := LH (show exp1 t.op t.n t.s t.t t.kids.length = false from by unfold exp1; simp [o1, o2, a])
     have hx := LH (show t.exp = false by rw [hte.out, hv.out]; rfl)
     obtain ⟨p1, r1, p2, r2, p3, r3, p4, r4, p5, r5, p6, r6, p7, r7, p9, r9, p15, r15, p16, r16⟩ := opf1 o2
     clear o1
     clear o2
     have an : (t.n != 0) = true := by simp only [bne, a]; rfl
     go_enter Tryz.func91, Tryz.ntmps91
     go_wp2_with fail
     go_ret
     refine ⟨ret_bool hx.out.symm, ?_⟩
     first | exact bT E B7 | exact bT E B8 | exact bT E B9 | exact E.out | exact belowN E.out _ | exact (belowN E.out _).drew | exact bA _ _ | exact belowN (bA _ _) _
    ·
     skip
     cases te : (t.t.toList.isEmpty)
     ·
      skip
      have hv := LH (show exp1 t.op t.n t.s t.t t.kids.length = false from by unfold exp1; simp [o1, o2, a, te])
      have hx := LH (show t.exp = false by rw [hte.out, hv.out]; rfl)
      obtain ⟨p1, r1, p2, r2, p3, r3, p4, r4, p5, r5, p6, r6, p7, r7, p9, r9, p15, r15, p16, r16⟩ := opf1 o2
      clear o1
      clear o2
      have an : (t.n != 0) = false := by simp only [bne, a]; rfl
      go_enter Tryz.func91, Tryz.ntmps91
      go_wp2_with fail
      go_ret
      refine ⟨ret_bool hx.out.symm, ?_⟩
      first | exact bT E B7 | exact bT E B8 | exact bT E B9 | exact E.out | exact belowN E.out _ | exact (belowN E.out _).drew | exact bA _ _ | exact belowN (bA _ _) _
     ·
      skip
      by_cases hk : t.kids.length = 0
      ·
       skip
       cases nb : (nameB t.s)
       ·
        skip
        have hv := LH (show exp1 t.op t.n t.s t.t t.kids.length = false from by unfold exp1; simp [o1, o2, a, te, hk, nb])
        have hx := LH (show t.exp = false by rw [hte.out, hv.out]; rfl)
        obtain ⟨p1, r1, p2, r2, p3, r3, p4, r4, p5, r5, p6, r6, p7, r7, p9, r9, p15, r15, p16, r16⟩ := opf1 o2
        clear o1
        clear o2
        have an : (t.n != 0) = false := by simp only [bne, a]; rfl
        have hk1 : (t.kids.length == 0) = true := by simp [hk]
        have hk2 : ((t.kids.length : Int) == 0) = true := by rw [beq_iff_eq]; omega
        have hk6 : ((t.kids.length : Int) != 0) = false := by simp only [bne, hk2]; rfl
        have hk7 : (t.kids.length != 0) = false := by simp only [bne, hk1]; rfl
        have hk3 : ¬ (0 : Int) < (t.kids.length : Int) := by omega
        have hk4 : decide (0 < t.kids.length) = false := by simp [hk]
        have Hhk := LH hk
        clear hk
        have HNM := LH (fun (wx : World) => specName t.s wx hsz2)
        rw [nb] at HNM
        clear nb
        go_enter Tryz.func91, Tryz.ntmps91
        go_wp2_with (first | (go_at_call 107; (try rw [← EQ.out]); with_reducible refine (HNM.out _).mono ?_; rintro e w9 ⟨rfl, hb9⟩; have B9 : Hid (Below w0.heap.size w0 w9) := (by first | exact LH (B8.out.trans (hb9.mono B8.out.size)) | exact LH hb9 | exact LH (((belowN (Below.refl w0.heap.size w0) _).drew).trans hb9) | exact LH ((belowN (Below.refl w0.heap.size w0) _).trans hb9) | exact LH ((belowN (Below.refl w0.heap.size w0) _).trans (hb9.mono (belowN (Below.refl w0.heap.size w0) _).size)) | exact LH (B8.out.trans ((belowN (Below.refl w0.heap.size w8) _).trans (hb9.mono (Nat.le_trans B8.out.size (belowN (Below.refl w0.heap.size w8) _).size))))); have R9 := LH (R.out.below B9.out R.out.lt); have hc9 := fun i => R9.out.cell i; clear hb9))
        go_ret
        refine ⟨ret_bool hx.out.symm, ?_⟩
        first | exact bT E B7 | exact bT E B8 | exact bT E B9 | exact E.out | exact belowN E.out _ | exact (belowN E.out _).drew | exact bA _ _ | exact belowN (bA _ _) _
       ·
        skip
        have hv := LH (show exp1 t.op t.n t.s t.t t.kids.length = true from by unfold exp1; simp [o1, o2, a, te, hk, nb])
        have hx := LH (show t.exp = true by rw [hte.out, hv.out, if_neg (by omega), List.eq_nil_of_length_eq_zero hk, GNode.expL]; rfl)
        obtain ⟨p1, r1, p2, r2, p3, r3, p4, r4, p5, r5, p6, r6, p7, r7, p9, r9, p15, r15, p16, r16⟩ := opf1 o2
        clear o1
        clear o2
        have an : (t.n != 0) = false := by simp only [bne, a]; rfl
        have hk1 : (t.kids.length == 0) = true := by simp [hk]
        have hk2 : ((t.kids.length : Int) == 0) = true := by rw [beq_iff_eq]; omega
        have hk6 : ((t.kids.length : Int) != 0) = false := by simp only [bne, hk2]; rfl
        have hk7 : (t.kids.length != 0) = false := by simp only [bne, hk1]; rfl
        have hk3 : ¬ (0 : Int) < (t.kids.length : Int) := by omega
        have hk4 : decide (0 < t.kids.length) = false := by simp [hk]
        have Hhk := LH hk
        clear hk
        have HNM := LH (fun (wx : World) => specName t.s wx hsz2)
        rw [nb] at HNM
        clear nb
        go_enter Tryz.func91, Tryz.ntmps91
        go_wp2_with (first | (go_at_call 107; (try rw [← EQ.out]); with_reducible refine (HNM.out _).mono ?_; rintro e w9 ⟨rfl, hb9⟩; have B9 : Hid (Below w0.heap.size w0 w9) := (by first | exact LH (B8.out.trans (hb9.mono B8.out.size)) | exact LH hb9 | exact LH (((belowN (Below.refl w0.heap.size w0) _).drew).trans hb9) | exact LH ((belowN (Below.refl w0.heap.size w0) _).trans hb9) | exact LH ((belowN (Below.refl w0.heap.size w0) _).trans (hb9.mono (belowN (Below.refl w0.heap.size w0) _).size)) | exact LH (B8.out.trans ((belowN (Below.refl w0.heap.size w8) _).trans (hb9.mono (Nat.le_trans B8.out.size (belowN (Below.refl w0.heap.size w8) _).size))))); have R9 := LH (R.out.below B9.out R.out.lt); have hc9 := fun i => R9.out.cell i; clear hb9))
        go_ret
        refine ⟨ret_bool hx.out.symm, ?_⟩
        first | exact bT E B7 | exact bT E B8 | exact bT E B9 | exact E.out | exact belowN E.out _ | exact (belowN E.out _).drew | exact bA _ _ | exact belowN (bA _ _) _
      ·
       skip
       have hv := LH (show exp1 t.op t.n t.s t.t t.kids.length = false from by unfold exp1; simp [o1, o2, a, te, hk])
       have hx := LH (show t.exp = false by rw [hte.out, hv.out]; rfl)
       obtain ⟨p1, r1, p2, r2, p3, r3, p4, r4, p5, r5, p6, r6, p7, r7, p9, r9, p15, r15, p16, r16⟩ := opf1 o2
       clear o1
       clear o2
       have an : (t.n != 0) = false := by simp only [bne, a]; rfl
       have hk1 : (t.kids.length == 0) = false := by simp [hk]
       have hk2 : ((t.kids.length : Int) == 0) = false := by rw [beq_eq_false_iff_ne]; omega
       have hk6 : ((t.kids.length : Int) != 0) = true := by simp only [bne, hk2]; rfl
       have hk7 : (t.kids.length != 0) = true := by simp only [bne, hk1]; rfl
       have hk3 : (0 : Int) < (t.kids.length : Int) := by omega
       have hk4 : decide (0 < t.kids.length) = true := decide_eq_true (by omega)
       have Hhk := LH hk
       clear hk
       go_enter Tryz.func91, Tryz.ntmps91
       go_wp2_with fail
       go_ret
       refine ⟨ret_bool hx.out.symm, ?_⟩
       first | exact bT E B7 | exact bT E B8 | exact bT E B9 | exact E.out | exact belowN E.out _ | exact (belowN E.out _).drew | exact bA _ _ | exact belowN (bA _ _) _
   ·
    skip
    by_cases o3 : t.op = 3
    ·
     skip
     cases a : (t.n == 0)
     ·
      skip
      have hv := LH (show exp1 t.op t.n t.s t.t t.kids.length = false from by unfold exp1; simp [o1, o2, o3, a])
      have hx := LH (show t.exp = false by rw [hte.out, hv.out]; rfl)
      obtain ⟨p1, r1, p2, r2, p3, r3, p4, r4, p5, r5, p6, r6, p7, r7, p9, r9, p15, r15, p16, r16⟩ := opf2 o3
      clear o1
      clear o2
      clear o3
      have an : (t.n != 0) = true := by simp only [bne, a]; rfl
      go_enter Tryz.func91, Tryz.ntmps91
      go_wp2_with fail
      go_ret
      refine ⟨ret_bool hx.out.symm, ?_⟩
      first | exact bT E B7 | exact bT E B8 | exact bT E B9 | exact E.out | exact belowN E.out _ | exact (belowN E.out _).drew | exact bA _ _ | exact belowN (bA _ _) _
     ·
      skip
      cases te : (t.t.toList.isEmpty)
      ·
       skip
       have hv := LH (show exp1 t.op t.n t.s t.t t.kids.length = false from by unfold exp1; simp [o1, o2, o3, a, te])
       have hx := LH (show t.exp = false by rw [hte.out, hv.out]; rfl)
       obtain ⟨p1, r1, p2, r2, p3, r3, p4, r4, p5, r5, p6, r6, p7, r7, p9, r9, p15, r15, p16, r16⟩ := opf2 o3
       clear o1
       clear o2
       clear o3
       have an : (t.n != 0) = false := by simp only [bne, a]; rfl
       go_enter Tryz.func91, Tryz.ntmps91
       go_wp2_with fail
       go_ret
       refine ⟨ret_bool hx.out.symm, ?_⟩
       first | exact bT E B7 | exact bT E B8 | exact bT E B9 | exact E.out | exact belowN E.out _ | exact (belowN E.out _).drew | exact bA _ _ | exact belowN (bA _ _) _
      ·
       skip
       by_cases hk : t.kids.length = 1
       ·
        skip
        cases nb : (nameB t.s)
        ·
         skip
         have hv := LH (show exp1 t.op t.n t.s t.t t.kids.length = false from by unfold exp1; simp [o1, o2, o3, a, te, hk, nb])
         have hx := LH (show t.exp = false by rw [hte.out, hv.out]; rfl)
         obtain ⟨p1, r1, p2, r2, p3, r3, p4, r4, p5, r5, p6, r6, p7, r7, p9, r9, p15, r15, p16, r16⟩ := opf2 o3
         clear o1
         clear o2
         clear o3
         have an : (t.n != 0) = false := by simp only [bne, a]; rfl
         have hk1 : (t.kids.length == 1) = true := by simp [hk]
         have hk2 : ((t.kids.length : Int) == 1) = true := by rw [beq_iff_eq]; omega
         have hk6 : ((t.kids.length : Int) != 1) = false := by simp only [bne, hk2]; rfl
         have hk7 : (t.kids.length != 1) = false := by simp only [bne, hk1]; rfl
         have Hhk := LH hk
         clear hk
         have HNM := LH (fun (wx : World) => specName t.s wx hsz2)
         rw [nb] at HNM
         clear nb
         go_enter Tryz.func91, Tryz.ntmps91
         go_wp2_with (first | (go_at_call 107; (try rw [← EQ.out]); with_reducible refine (HNM.out _).mono ?_; rintro e w9 ⟨rfl, hb9⟩; have B9 : Hid (Below w0.heap.size w0 w9) := (by first | exact LH (B8.out.trans (hb9.mono B8.out.size)) | exact LH hb9 | exact LH (((belowN (Below.refl w0.heap.size w0) _).drew).trans hb9) | exact LH ((belowN (Below.refl w0.heap.size w0) _).trans hb9) | exact LH ((belowN (Below.refl w0.heap.size w0) _).trans (hb9.mono (belowN (Below.refl w0.heap.size w0) _).size)) | exact LH (B8.out.trans ((belowN (Below.refl w0.heap.size w8) _).trans (hb9.mono (Nat.le_trans B8.out.size (belowN (Below.refl w0.heap.size w8) _).size))))); have R9 := LH (R.out.below B9.out R.out.lt); have hc9 := fun i => R9.out.cell i; clear hb9))
         go_ret
         refine ⟨ret_bool hx.out.symm, ?_⟩
         first | exact bT E B7 | exact bT E B8 | exact bT E B9 | exact E.out | exact belowN E.out _ | exact (belowN E.out _).drew | exact bA _ _ | exact belowN (bA _ _) _
        ·
         skip
         have hv := LH (show exp1 t.op t.n t.s t.t t.kids.length = true from by unfold exp1; simp [o1, o2, o3, a, te, hk, nb])
         have hx := LH (show t.exp = GNode.expL t.kids by rw [hte.out, hv.out, if_neg (by omega)]; rfl)
         obtain ⟨p1, r1, p2, r2, p3, r3, p4, r4, p5, r5, p6, r6, p7, r7, p9, r9, p15, r15, p16, r16⟩ := opf2 o3
         clear o1
         clear o2
         clear o3
         have an : (t.n != 0) = false := by simp only [bne, a]; rfl
         have hk1 : (t.kids.length == 1) = true := by simp [hk]
         have hk2 : ((t.kids.length : Int) == 1) = true := by rw [beq_iff_eq]; omega
         have hk6 : ((t.kids.length : Int) != 1) = false := by simp only [bne, hk2]; rfl
         have hk7 : (t.kids.length != 1) = false := by simp only [bne, hk1]; rfl
         have Hhk := LH hk
         clear hk
         have HNM := LH (fun (wx : World) => specName t.s wx hsz2)
         rw [nb] at HNM
         clear nb
         go_enter Tryz.func91, Tryz.ntmps91
         go_wp2_with (first | (go_at_call 107; (try rw [← EQ.out]); with_reducible refine (HNM.out _).mono ?_; rintro e w9 ⟨rfl, hb9⟩; have B9 : Hid (Below w0.heap.size w0 w9) := (by first | exact LH (B8.out.trans (hb9.mono B8.out.size)) | exact LH hb9 | exact LH (((belowN (Below.refl w0.heap.size w0) _).drew).trans hb9) | exact LH ((belowN (Below.refl w0.heap.size w0) _).trans hb9) | exact LH ((belowN (Below.refl w0.heap.size w0) _).trans (hb9.mono (belowN (Below.refl w0.heap.size w0) _).size)) | exact LH (B8.out.trans ((belowN (Below.refl w0.heap.size w8) _).trans (hb9.mono (Nat.le_trans B8.out.size (belowN (Below.refl w0.heap.size w8) _).size))))); have R9 := LH (R.out.below B9.out R.out.lt); have hc9 := fun i => R9.out.cell i; clear hb9) | (go_at_call 108; (try rw [← EQ.out]); refine (HES.out _ (by first | exact B8.out | exact B9.out | exact Below.refl _ _ | exact belowN (Below.refl _ _) _ | exact (belowN (Below.refl _ _) _).drew)).mono ?_; rintro e w7 ⟨rfl, hb7⟩; have B7 : Hid (Below w0.heap.size w0 w7) := (by first | exact LH (B8.out.trans (hb7.mono B8.out.size)) | exact LH (B9.out.trans (hb7.mono B9.out.size)) | exact LH hb7); clear hb7))
         go_ret
         refine ⟨ret_bool hx.out.symm, ?_⟩
         first | exact bT E B7 | exact bT E B8 | exact bT E B9 | exact E.out | exact belowN E.out _ | exact (belowN E.out _).drew | exact bA _ _ | exact belowN (bA _ _) _
       ·
        skip
        have hv := LH (show exp1 t.op t.n t.s t.t t.kids.length = false from by unfold exp1; simp [o1, o2, o3, a, te, hk])
        have hx := LH (show t.exp = false by rw [hte.out, hv.out]; rfl)
        obtain ⟨p1, r1, p2, r2, p3, r3, p4, r4, p5, r5, p6, r6, p7, r7, p9, r9, p15, r15, p16, r16⟩ := opf2 o3
        clear o1
        clear o2
        clear o3
        have an : (t.n != 0) = false := by simp only [bne, a]; rfl
        have hk1 : (t.kids.length == 1) = false := by simp [hk]
        have hk2 : ((t.kids.length : Int) == 1) = false := by rw [beq_eq_false_iff_ne]; omega
        have hk6 : ((t.kids.length : Int) != 1) = true := by simp only [bne, hk2]; rfl
        have hk7 : (t.kids.length != 1) = true := by simp only [bne, hk1]; rfl
        have Hhk := LH hk
        clear hk
        go_enter Tryz.func91, Tryz.ntmps91
        go_wp2_with fail
        go_ret
        refine ⟨ret_bool hx.out.symm, ?_⟩
        first | exact bT E B7 | exact bT E B8 | exact bT E B9 | exact E.out | exact belowN E.out _ | exact (belowN E.out _).drew | exact bA _ _ | exact belowN (bA _ _) _
    ·
     skip
     by_cases o5 : t.op = 5
     ·
      skip
      cases a : (t.n == 0)
      ·
       skip
       have hv := LH (show exp1 t.op t.n t.s t.t t.kids.length = false from by unfold exp1; simp [o1, o2, o3, o5, a])
       have hx := LH (show t.exp = false by rw [hte.out, hv.out]; rfl)
       obtain ⟨p1, r1, p2, r2, p3, r3, p4, r4, p5, r5, p6, r6, p7, r7, p9, r9, p15, r15, p16, r16⟩ := opf3 o5
       clear o1
       clear o2
       clear o3
       clear o5
       have an : (t.n != 0) = true := by simp only [bne, a]; rfl
       go_enter Tryz.func91, Tryz.ntmps91
       go_wp2_with fail
       go_ret
       refine ⟨ret_bool hx.out.symm, ?_⟩
       first | exact bT E B7 | exact bT E B8 | exact bT E B9 | exact E.out | exact belowN E.out _ | exact (belowN E.out _).drew | exact bA _ _ | exact belowN (bA _ _) _
      ·
       skip
       cases te : (t.t.toList.isEmpty)
       ·
        skip
        have hv := LH (show exp1 t.op t.n t.s t.t t.kids.length = false from by unfold exp1; simp [o1, o2, o3, o5, a, te])
        have hx := LH (show t.exp = false by rw [hte.out, hv.out]; rfl)
        obtain ⟨p1, r1, p2, r2, p3, r3, p4, r4, p5, r5, p6, r6, p7, r7, p9, r9, p15, r15, p16, r16⟩ := opf3 o5
        clear o1
        clear o2
        clear o3
        clear o5
        have an : (t.n != 0) = false := by simp only [bne, a]; rfl
        go_enter Tryz.func91, Tryz.ntmps91
        go_wp2_with fail
        go_ret
        refine ⟨ret_bool hx.out.symm, ?_⟩
        first | exact bT E B7 | exact bT E B8 | exact bT E B9 | exact E.out | exact belowN E.out _ | exact (belowN E.out _).drew | exact bA _ _ | exact belowN (bA _ _) _
       ·
        skip
        by_cases hk : t.kids.length = 2
        ·
         skip
         cases nb : (nameB t.s)
         ·
          skip
          have hv := LH (show exp1 t.op t.n t.s t.t t.kids.length = false from by unfold exp1; simp [o1, o2, o3, o5, a, te, hk, nb])
          have hx := LH (show t.exp = false by rw [hte.out, hv.out]; rfl)
          obtain ⟨p1, r1, p2, r2, p3, r3, p4, r4, p5, r5, p6, r6, p7, r7, p9, r9, p15, r15, p16, r16⟩ := opf3 o5
          clear o1
          clear o2
          clear o3
          clear o5
          have an : (t.n != 0) = false := by simp only [bne, a]; rfl
          have hk1 : (t.kids.length == 2) = true := by simp [hk]
          have hk2 : ((t.kids.length : Int) == 2) = true := by rw [beq_iff_eq]; omega
          have hk6 : ((t.kids.length : Int) != 2) = false := by simp only [bne, hk2]; rfl
          have hk7 : (t.kids.length != 2) = false := by simp only [bne, hk1]; rfl
          have Hhk := LH hk
          clear hk
          have HNM := LH (fun (wx : World) => specName t.s wx hsz2)
          rw [nb] at HNM
          clear nb
          go_enter Tryz.func91, Tryz.ntmps91
          go_wp2_with (first | (go_at_call 107; (try rw [← EQ.out]); with_reducible refine (HNM.out _).mono ?_; rintro e w9 ⟨rfl, hb9⟩; have B9 : Hid (Below w0.heap.size w0 w9) := (by first | exact LH (B8.out.trans (hb9.mono B8.out.size)) | exact LH hb9 | exact LH (((belowN (Below.refl w0.heap.size w0) _).drew).trans hb9) | exact LH ((belowN (Below.refl w0.heap.size w0) _).trans hb9) | exact LH ((belowN (Below.refl w0.heap.size w0) _).trans (hb9.mono (belowN (Below.refl w0.heap.size w0) _).size)) | exact LH (B8.out.trans ((belowN (Below.refl w0.heap.size w8) _).trans (hb9.mono (Nat.le_trans B8.out.size (belowN (Below.refl w0.heap.size w8) _).size))))); have R9 := LH (R.out.below B9.out R.out.lt); have hc9 := fun i => R9.out.cell i; clear hb9))
          go_ret
          refine ⟨ret_bool hx.out.symm, ?_⟩
          first | exact bT E B7 | exact bT E B8 | exact bT E B9 | exact E.out | exact belowN E.out _ | exact (belowN E.out _).drew | exact bA _ _ | exact belowN (bA _ _) _
         ·
          skip
          have hv := LH (show exp1 t.op t.n t.s t.t t.kids.length = true from by unfold exp1; simp [o1, o2, o3, o5, a, te, hk, nb])
          have hx := LH (show t.exp = GNode.expL t.kids by rw [hte.out, hv.out, if_neg (by omega)]; rfl)
          obtain ⟨p1, r1, p2, r2, p3, r3, p4, r4, p5, r5, p6, r6, p7, r7, p9, r9, p15, r15, p16, r16⟩ := opf3 o5
          clear o1
          clear o2
          clear o3
          clear o5
          have an : (t.n != 0) = false := by simp only [bne, a]; rfl
          have hk1 : (t.kids.length == 2) = true := by simp [hk]
          have hk2 : ((t.kids.length : Int) == 2) = true := by rw [beq_iff_eq]; omega
          have hk6 : ((t.kids.length : Int) != 2) = false := by simp only [bne, hk2]; rfl
          have hk7 : (t.kids.length != 2) = false := by simp only [bne, hk1]; rfl
          have Hhk := LH hk
          clear hk
          have HNM := LH (fun (wx : World) => specName t.s wx hsz2)
          rw [nb] at HNM
          clear nb
          go_enter Tryz.func91, Tryz.ntmps91
          go_wp2_with (first | (go_at_call 107; (try rw [← EQ.out]); with_reducible refine (HNM.out _).mono ?_; rintro e w9 ⟨rfl, hb9⟩; have B9 : Hid (Below w0.heap.size w0 w9) := (by first | exact LH (B8.out.trans (hb9.mono B8.out.size)) | exact LH hb9 | exact LH (((belowN (Below.refl w0.heap.size w0) _).drew).trans hb9) | exact LH ((belowN (Below.refl w0.heap.size w0) _).trans hb9) | exact LH ((belowN (Below.refl w0.heap.size w0) _).trans (hb9.mono (belowN (Below.refl w0.heap.size w0) _).size)) | exact LH (B8.out.trans ((belowN (Below.refl w0.heap.size w8) _).trans (hb9.mono (Nat.le_trans B8.out.size (belowN (Below.refl w0.heap.size w8) _).size))))); have R9 := LH (R.out.below B9.out R.out.lt); have hc9 := fun i => R9.out.cell i; clear hb9) | (go_at_call 108; (try rw [← EQ.out]); refine (HES.out _ (by first | exact B8.out | exact B9.out | exact Below.refl _ _ | exact belowN (Below.refl _ _) _ | exact (belowN (Below.refl _ _) _).drew)).mono ?_; rintro e w7 ⟨rfl, hb7⟩; have B7 : Hid (Below w0.heap.size w0 w7) := (by first | exact LH (B8.out.trans (hb7.mono B8.out.size)) | exact LH (B9.out.trans (hb7.mono B9.out.size)) | exact LH hb7); clear hb7))
          go_ret
          refine ⟨ret_bool hx.out.symm, ?_⟩
          first | exact bT E B7 | exact bT E B8 | exact bT E B9 | exact E.out | exact belowN E.out _ | exact (belowN E.out _).drew | exact bA _ _ | exact belowN (bA _ _) _
        ·
         skip
         have hv := LH (show exp1 t.op t.n t.s t.t t.kids.length = false from by unfold exp1; simp [o1, o2, o3, o5, a, te, hk])
         have hx := LH (show t.exp = false by rw [hte.out, hv.out]; rfl)
         obtain ⟨p1, r1, p2, r2, p3, r3, p4, r4, p5, r5, p6, r6, p7, r7, p9, r9, p15, r15, p16, r16⟩ := opf3 o5
         clear o1
         clear o2
         clear o3
         clear o5
         have an : (t.n != 0) = false := by simp only [bne, a]; rfl
         have hk1 : (t.kids.length == 2) = false := by simp [hk]
         have hk2 : ((t.kids.length : Int) == 2) = false := by rw [beq_eq_false_iff_ne]; omega
         have hk6 : ((t.kids.length : Int) != 2) = true := by simp only [bne, hk2]; rfl
         have hk7 : (t.kids.length != 2) = true := by simp only [bne, hk1]; rfl
         have Hhk := LH hk
         clear hk
         go_enter Tryz.func91, Tryz.ntmps91
         go_wp2_with fail
         go_ret
         refine ⟨ret_bool hx.out.symm, ?_⟩
         first | exact bT E B7 | exact bT E B8 | exact bT E B9 | exact E.out | exact belowN E.out _ | exact (belowN E.out _).drew | exact bA _ _ | exact belowN (bA _ _) _
     ·
      skip
      by_cases o6 : t.op = 6
      ·
       skip
       cases a : (t.n == 0)
       ·
        skip
        have hv := LH (show exp1 t.op t.n t.s t.t t.kids.length = false from by unfold exp1; simp [o1, o2, o3, o5, o6, a])
        have hx := LH (show t.exp = false by rw [hte.out, hv.out]; rfl)
        obtain ⟨p1, r1, p2, r2, p3, r3, p4, r4, p5, r5, p6, r6, p7, r7, p9, r9, p15, r15, p16, r16⟩ := opf4 o6
        clear o1
        clear o2
        clear o3
        clear o5
        clear o6
        have an : (t.n != 0) = true := by simp only [bne, a]; rfl
        go_enter Tryz.func91, Tryz.ntmps91
        go_wp2_with fail
        go_ret
        refine ⟨ret_bool hx.out.symm, ?_⟩
        first | exact bT E B7 | exact bT E B8 | exact bT E B9 | exact E.out | exact belowN E.out _ | exact (belowN E.out _).drew | exact bA _ _ | exact belowN (bA _ _) _
       ·
        skip
        by_cases hk : t.kids.length = 2
        ·
         skip
         cases nb : (nameB t.s)
         ·
          skip
          have hv := LH (show exp1 t.op t.n t.s t.t t.kids.length = false from by unfold exp1; simp [o1, o2, o3, o5, o6, a, hk, nb])
          have hx := LH (show t.exp = false by rw [hte.out, hv.out]; rfl)
          obtain ⟨p1, r1, p2, r2, p3, r3, p4, r4, p5, r5, p6, r6, p7, r7, p9, r9, p15, r15, p16, r16⟩ := opf4 o6
          clear o1
          clear o2
          clear o3
          clear o5
          clear o6
          have an : (t.n != 0) = false := by simp only [bne, a]; rfl
          have hk1 : (t.kids.length == 2) = true := by simp [hk]
          have hk2 : ((t.kids.length : Int) == 2) = true := by rw [beq_iff_eq]; omega
          have hk6 : ((t.kids.length : Int) != 2) = false := by simp only [bne, hk2]; rfl
          have hk7 : (t.kids.length != 2) = false := by simp only [bne, hk1]; rfl
          have Hhk := LH hk
          clear hk
          have HNM := LH (fun (wx : World) => specName t.s wx hsz2)
          rw [nb] at HNM
          clear nb
          go_enter Tryz.func91, Tryz.ntmps91
          go_wp2_with (first | (go_at_call 107; (try rw [← EQ.out]); with_reducible refine (HNM.out _).mono ?_; rintro e w9 ⟨rfl, hb9⟩; have B9 : Hid (Below w0.heap.size w0 w9) := (by first | exact LH (B8.out.trans (hb9.mono B8.out.size)) | exact LH hb9 | exact LH (((belowN (Below.refl w0.heap.size w0) _).drew).trans hb9) | exact LH ((belowN (Below.refl w0.heap.size w0) _).trans hb9) | exact LH ((belowN (Below.refl w0.heap.size w0) _).trans (hb9.mono (belowN (Below.refl w0.heap.size w0) _).size)) | exact LH (B8.out.trans ((belowN (Below.refl w0.heap.size w8) _).trans (hb9.mono (Nat.le_trans B8.out.size (belowN (Below.refl w0.heap.size w8) _).size))))); have R9 := LH (R.out.below B9.out R.out.lt); have hc9 := fun i => R9.out.cell i; clear hb9))
          go_ret
          refine ⟨ret_bool hx.out.symm, ?_⟩
          first | exact bT E B7 | exact bT E B8 | exact bT E B9 | exact E.out | exact belowN E.out _ | exact (belowN E.out _).drew | exact bA _ _ | exact belowN (bA _ _) _
         ·
          skip
          cases nt : (nameB t.t)
          ·
           skip
           have hv := LH (show exp1 t.op t.n t.s t.t t.kids.length = false from by unfold exp1; simp [o1, o2, o3, o5, o6, a, hk, nb, nt])
           have hx := LH (show t.exp = false by rw [hte.out, hv.out]; rfl)
           obtain ⟨p1, r1, p2, r2, p3, r3, p4, r4, p5, r5, p6, r6, p7, r7, p9, r9, p15, r15, p16, r16⟩ := opf4 o6
           clear o1
           clear o2
           clear o3
           clear o5
           clear o6
           have an : (t.n != 0) = false := by simp only [bne, a]; rfl
           have hk1 : (t.kids.length == 2) = true := by simp [hk]
           have hk2 : ((t.kids.length : Int) == 2) = true := by rw [beq_iff_eq]; omega
           have hk6 : ((t.kids.length : Int) != 2) = false := by simp only [bne, hk2]; rfl
           have hk7 : (t.kids.length != 2) = false := by simp only [bne, hk1]; rfl
           have Hhk := LH hk
           clear hk
           have HNM := LH (fun (wx : World) => specName t.s wx hsz2)
           rw [nb] at HNM
           clear nb
           have HNT := LH (fun (wx : World) => specName t.t wx hsz3)
           rw [nt] at HNT
           clear nt
           go_enter Tryz.func91, Tryz.ntmps91
           go_wp2_with (first | (go_at_call 107; (try rw [← EQ.out]); with_reducible refine (HNM.out _).mono ?_; rintro e w9 ⟨rfl, hb9⟩; have B9 : Hid (Below w0.heap.size w0 w9) := (by first | exact LH (B8.out.trans (hb9.mono B8.out.size)) | exact LH hb9 | exact LH (((belowN (Below.refl w0.heap.size w0) _).drew).trans hb9) | exact LH ((belowN (Below.refl w0.heap.size w0) _).trans hb9) | exact LH ((belowN (Below.refl w0.heap.size w0) _).trans (hb9.mono (belowN (Below.refl w0.heap.size w0) _).size)) | exact LH (B8.out.trans ((belowN (Below.refl w0.heap.size w8) _).trans (hb9.mono (Nat.le_trans B8.out.size (belowN (Below.refl w0.heap.size w8) _).size))))); have R9 := LH (R.out.below B9.out R.out.lt); have hc9 := fun i => R9.out.cell i; clear hb9) | (go_at_call 107; (try rw [← EQ.out]); with_reducible refine (HNT.out _).mono ?_; rintro e w8 ⟨rfl, hb8⟩; have B8 : Hid (Below w0.heap.size w0 w8) := (by first | exact LH (B9.out.trans (hb8.mono B9.out.size)) | exact LH hb8 | exact LH (((belowN (Below.refl w0.heap.size w0) _).drew).trans hb8) | exact LH ((belowN (Below.refl w0.heap.size w0) _).trans hb8) | exact LH ((belowN (Below.refl w0.heap.size w0) _).trans (hb8.mono (belowN (Below.refl w0.heap.size w0) _).size)) | exact LH (B9.out.trans ((belowN (Below.refl w0.heap.size w9) _).trans (hb8.mono (Nat.le_trans B9.out.size (belowN (Below.refl w0.heap.size w9) _).size))))); have R8 := LH (R.out.below B8.out R.out.lt); have hc8 := fun i => R8.out.cell i; clear hb8))
           go_ret
           refine ⟨ret_bool hx.out.symm, ?_⟩
           first | exact bT E B7 | exact bT E B8 | exact bT E B9 | exact E.out | exact belowN E.out _ | exact (belowN E.out _).drew | exact bA _ _ | exact belowN (bA _ _) _
          ·
           skip
           have hv := LH (show exp1 t.op t.n t.s t.t t.kids.length = true from by unfold exp1; simp [o1, o2, o3, o5, o6, a, hk, nb, nt])
           have hx := LH (show t.exp = GNode.expL t.kids by rw [hte.out, hv.out, if_neg (by omega)]; rfl)
           obtain ⟨p1, r1, p2, r2, p3, r3, p4, r4, p5, r5, p6, r6, p7, r7, p9, r9, p15, r15, p16, r16⟩ := opf4 o6
           clear o1
           clear o2
           clear o3
           clear o5
           clear o6
           have an : (t.n != 0) = false := by simp only [bne, a]; rfl
           have hk1 : (t.kids.length == 2) = true := by simp [hk]
           have hk2 : ((t.kids.length : Int) == 2) = true := by rw [beq_iff_eq]; omega
           have hk6 : ((t.kids.length : Int) != 2) = false := by simp only [bne, hk2]; rfl
           have hk7 : (t.kids.length != 2) = false := by simp only [bne, hk1]; rfl
           have Hhk := LH hk
           clear hk
           have HNM := LH (fun (wx : World) => specName t.s wx hsz2)
           rw [nb] at HNM
           clear nb
           have HNT := LH (fun (wx : World) => specName t.t wx hsz3)
           rw [nt] at HNT
           clear nt
           go_enter Tryz.func91, Tryz.ntmps91
           go_wp2_with (first | (go_at_call 107; (try rw [← EQ.out]); with_reducible refine (HNM.out _).mono ?_; rintro e w9 ⟨rfl, hb9⟩; have B9 : Hid (Below w0.heap.size w0 w9) := (by first | exact LH (B8.out.trans (hb9.mono B8.out.size)) | exact LH hb9 | exact LH (((belowN (Below.refl w0.heap.size w0) _).drew).trans hb9) | exact LH ((belowN (Below.refl w0.heap.size w0) _).trans hb9) | exact LH ((belowN (Below.refl w0.heap.size w0) _).trans (hb9.mono (belowN (Below.refl w0.heap.size w0) _).size)) | exact LH (B8.out.trans ((belowN (Below.refl w0.heap.size w8) _).trans (hb9.mono (Nat.le_trans B8.out.size (belowN (Below.refl w0.heap.size w8) _).size))))); have R9 := LH (R.out.below B9.out R.out.lt); have hc9 := fun i => R9.out.cell i; clear hb9) | (go_at_call 107; (try rw [← EQ.out]); with_reducible refine (HNT.out _).mono ?_; rintro e w8 ⟨rfl, hb8⟩; have B8 : Hid (Below w0.heap.size w0 w8) := (by first | exact LH (B9.out.trans (hb8.mono B9.out.size)) | exact LH hb8 | exact LH (((belowN (Below.refl w0.heap.size w0) _).drew).trans hb8) | exact LH ((belowN (Below.refl w0.heap.size w0) _).trans hb8) | exact LH ((belowN (Below.refl w0.heap.size w0) _).trans (hb8.mono (belowN (Below.refl w0.heap.size w0) _).size)) | exact LH (B9.out.trans ((belowN (Below.refl w0.heap.size w9) _).trans (hb8.mono (Nat.le_trans B9.out.size (belowN (Below.refl w0.heap.size w9) _).size))))); have R8 := LH (R.out.below B8.out R.out.lt); have hc8 := fun i => R8.out.cell i; clear hb8) | (go_at_call 108; (try rw [← EQ.out]); refine (HES.out _ (by first | exact B8.out | exact B9.out | exact Below.refl _ _ | exact belowN (Below.refl _ _) _ | exact (belowN (Below.refl _ _) _).drew)).mono ?_; rintro e w7 ⟨rfl, hb7⟩; have B7 : Hid (Below w0.heap.size w0 w7) := (by first | exact LH (B8.out.trans (hb7.mono B8.out.size)) | exact LH (B9.out.trans (hb7.mono B9.out.size)) | exact LH hb7); clear hb7))
           go_ret
           refine ⟨ret_bool hx.out.symm, ?_⟩
           first | exact bT E B7 | exact bT E B8 | exact bT E B9 | exact E.out | exact belowN E.out _ | exact (belowN E.out _).drew | exact bA _ _ | exact belowN (bA _ _) _
        ·
         skip
         have hv := LH (show exp1 t.op t.n t.s t.t t.kids.length = false from by unfold exp1; simp [o1, o2, o3, o5, o6, a, hk])
         have hx := LH (show t.exp = false by rw [hte.out, hv.out]; rfl)
         obtain ⟨p1, r1, p2, r2, p3, r3, p4, r4, p5, r5, p6, r6, p7, r7, p9, r9, p15, r15, p16, r16⟩ := opf4 o6
         clear o1
         clear o2
         clear o3
         clear o5
         clear o6
         have an : (t.n != 0) = false := by simp only [bne, a]; rfl
         have hk1 : (t.kids.length == 2) = false := by simp [hk]
         have hk2 : ((t.kids.length : Int) == 2) = false := by rw [beq_eq_false_iff_ne]; omega
         have hk6 : ((t.kids.length : Int) != 2) = true := by simp only [bne, hk2]; rfl
         have hk7 : (t.kids.length != 2) = true := by simp only [bne, hk1]; rfl
         have Hhk := LH hk
         clear hk
         go_enter Tryz.func91, Tryz.ntmps91
         go_wp2_with fail
         go_ret
         refine ⟨ret_bool hx.out.symm, ?_⟩
         first | exact bT E B7 | exact bT E B8 | exact bT E B9 | exact E.out | exact belowN E.out _ | exact (belowN E.out _).drew | exact bA _ _ | exact belowN (bA _ _) _
      ·
       skip
       by_cases o7 : t.op = 7
       ·
        skip
        cases a : (t.n == 0)
        ·
         skip
         have hv := LH (show exp1 t.op t.n t.s t.t t.kids.length = false from by unfold exp1; simp [o1, o2, o3, o5, o6, o7, a])
         have hx := LH (show t.exp = false by rw [hte.out, hv.out]; rfl)
         obtain ⟨p1, r1, p2, r2, p3, r3, p4, r4, p5, r5, p6, r6, p7, r7, p9, r9, p15, r15, p16, r16⟩ := opf5 o7
         clear o1
         clear o2
         clear o3
         clear o5
         clear o6
         clear o7
         have an : (t.n != 0) = true := by simp only [bne, a]; rfl
         go_enter Tryz.func91, Tryz.ntmps91
         go_wp2_with fail
         go_ret
         refine ⟨ret_bool hx.out.symm, ?_⟩
         first | exact bT E B7 | exact bT E B8 | exact bT E B9 | exact E.out | exact belowN E.out _ | exact (belowN E.out _).drew | exact bA _ _ | exact belowN (bA _ _) _
        ·
         skip
         cases te : (t.t.toList.isEmpty)
         ·
          skip
          have hv := LH (show exp1 t.op t.n t.s t.t t.kids.length = false from by unfold exp1; simp [o1, o2, o3, o5, o6, o7, a, te])
          have hx := LH (show t.exp = false by rw [hte.out, hv.out]; rfl)
          obtain ⟨p1, r1, p2, r2, p3, r3, p4, r4, p5, r5, p6, r6, p7, r7, p9, r9, p15, r15, p16, r16⟩ := opf5 o7
          clear o1
          clear o2
          clear o3
          clear o5
          clear o6
          clear o7
          have an : (t.n != 0) = false := by simp only [bne, a]; rfl
          go_enter Tryz.func91, Tryz.ntmps91
          go_wp2_with fail
          go_ret
          refine ⟨ret_bool hx.out.symm, ?_⟩
          first | exact bT E B7 | exact bT E B8 | exact bT E B9 | exact E.out | exact belowN E.out _ | exact (belowN E.out _).drew | exact bA _ _ | exact belowN (bA _ _) _
         ·
          skip
          cases b : (t.s.toList.isEmpty)
          ·
           skip
           have hv := LH (show exp1 t.op t.n t.s t.t t.kids.length = false from by unfold exp1; simp [o1, o2, o3, o5, o6, o7, a, te, b])
           have hx := LH (show t.exp = false by rw [hte.out, hv.out]; rfl)
           obtain ⟨p1, r1, p2, r2, p3, r3, p4, r4, p5, r5, p6, r6, p7, r7, p9, r9, p15, r15, p16, r16⟩ := opf5 o7
           clear o1
           clear o2
           clear o3
           clear o5
           clear o6
           clear o7
           have an : (t.n != 0) = false := by simp only [bne, a]; rfl
           go_enter Tryz.func91, Tryz.ntmps91
           go_wp2_with fail
           go_ret
           refine ⟨ret_bool hx.out.symm, ?_⟩
           first | exact bT E B7 | exact bT E B8 | exact bT E B9 | exact E.out | exact belowN E.out _ | exact (belowN E.out _).drew | exact bA _ _ | exact belowN (bA _ _) _
          ·
           skip
           have hv := LH (show exp1 t.op t.n t.s t.t t.kids.length = decide (2 ≤ t.kids.length) from by unfold exp1; simp [o1, o2, o3, o5, o6, o7, a, te, b])
           have hx := LH (show t.exp = caseV t.kids by rw [hte.out, hv.out, if_pos o7, hcv.out])
           obtain ⟨p1, r1, p2, r2, p3, r3, p4, r4, p5, r5, p6, r6, p7, r7, p9, r9, p15, r15, p16, r16⟩ := opf5 o7
           clear o1
           clear o2
           clear o3
           clear o5
           clear o6
           clear o7
           have an : (t.n != 0) = false := by simp only [bne, a]; rfl
           go_enter Tryz.func91, Tryz.ntmps91
           go_wp2_with (first | (go_at_call 109; (try rw [← EQ.out]); refine (HCS.out _ (by first | exact B8.out | exact B9.out | exact Below.refl _ _ | exact belowN (Below.refl _ _) _ | exact (belowN (Below.refl _ _) _).drew)).mono ?_; rintro e w7 ⟨rfl, hb7⟩; have B7 : Hid (Below w0.heap.size w0 w7) := LH hb7; clear hb7))
           go_ret
           refine ⟨ret_bool hx.out.symm, ?_⟩
           first | exact bT E B7 | exact bT E B8 | exact bT E B9 | exact E.out | exact belowN E.out _ | exact (belowN E.out _).drew | exact bA _ _ | exact belowN (bA _ _) _
       ·
        skip
        by_cases o9 : t.op = 9
        ·
         skip
         cases a : (t.n == 0)
         ·
          skip
          have hv := LH (show exp1 t.op t.n t.s t.t t.kids.length = false from by unfold exp1; simp [o1, o2, o3, o5, o6, o7, o9, a])
          have hx := LH (show t.exp = false by rw [hte.out, hv.out]; rfl)
          obtain ⟨p1, r1, p2, r2, p3, r3, p4, r4, p5, r5, p6, r6, p7, r7, p9, r9, p15, r15, p16, r16⟩ := opf6 o9
          clear o1
          clear o2
          clear o3
          clear o5
          clear o6
          clear o7
          clear o9
          have an : (t.n != 0) = true := by simp only [bne, a]; rfl
          go_enter Tryz.func91, Tryz.ntmps91
          go_wp2_with fail
          go_ret
          refine ⟨ret_bool hx.out.symm, ?_⟩
          first | exact bT E B7 | exact bT E B8 | exact bT E B9 | exact E.out | exact belowN E.out _ | exact (belowN E.out _).drew | exact bA _ _ | exact belowN (bA _ _) _
         ·
          skip
          cases te : (t.t.toList.isEmpty)
          ·
           skip
           have hv := LH (show exp1 t.op t.n t.s t.t t.kids.length = false from by unfold exp1; simp [o1, o2, o3, o5, o6, o7, o9, a, te])
           have hx := LH (show t.exp = false by rw [hte.out, hv.out]; rfl)
           obtain ⟨p1, r1, p2, r2, p3, r3, p4, r4, p5, r5, p6, r6, p7, r7, p9, r9, p15, r15, p16, r16⟩ := opf6 o9
           clear o1
           clear o2
           clear o3
           clear o5
           clear o6
           clear o7
           clear o9
           have an : (t.n != 0) = false := by simp only [bne, a]; rfl
           go_enter Tryz.func91, Tryz.ntmps91
           go_wp2_with fail
           go_ret
           refine ⟨ret_bool hx.out.symm, ?_⟩
           first | exact bT E B7 | exact bT E B8 | exact bT E B9 | exact E.out | exact belowN E.out _ | exact (belowN E.out _).drew | exact bA _ _ | exact belowN (bA _ _) _
          ·
           skip
           cases b : (t.s.toList.isEmpty)
           ·
            skip
            have hv := LH (show exp1 t.op t.n t.s t.t t.kids.length = false from by unfold exp1; simp [o1, o2, o3, o5, o6, o7, o9, a, te, b])
            have hx := LH (show t.exp = false by rw [hte.out, hv.out]; rfl)
            obtain ⟨p1, r1, p2, r2, p3, r3, p4, r4, p5, r5, p6, r6, p7, r7, p9, r9, p15, r15, p16, r16⟩ := opf6 o9
            clear o1
            clear o2
            clear o3
            clear o5
            clear o6
            clear o7
            clear o9
            have an : (t.n != 0) = false := by simp only [bne, a]; rfl
            go_enter Tryz.func91, Tryz.ntmps91
            go_wp2_with fail
            go_ret
            refine ⟨ret_bool hx.out.symm, ?_⟩
            first | exact bT E B7 | exact bT E B8 | exact bT E B9 | exact E.out | exact belowN E.out _ | exact (belowN E.out _).drew | exact bA _ _ | exact belowN (bA _ _) _
           ·
            skip
            by_cases hk : t.kids.length = 3
            ·
             skip
             have hv := LH (show exp1 t.op t.n t.s t.t t.kids.length = true from by unfold exp1; simp [o1, o2, o3, o5, o6, o7, o9, a, te, b, hk])
             have hx := LH (show t.exp = GNode.expL t.kids by rw [hte.out, hv.out, if_neg (by omega)]; rfl)
             obtain ⟨p1, r1, p2, r2, p3, r3, p4, r4, p5, r5, p6, r6, p7, r7, p9, r9, p15, r15, p16, r16⟩ := opf6 o9
             clear o1
             clear o2
             clear o3
             clear o5
             clear o6
             clear o7
             clear o9
             have an : (t.n != 0) = false := by simp only [bne, a]; rfl
             have hk1 : (t.kids.length == 3) = true := by simp [hk]
             have hk2 : ((t.kids.length : Int) == 3) = true := by rw [beq_iff_eq]; omega
             have hk6 : ((t.kids.length : Int) != 3) = false := by simp only [bne, hk2]; rfl
             have hk7 : (t.kids.length != 3) = false := by simp only [bne, hk1]; rfl
             have Hhk := LH hk
             clear hk
             go_enter Tryz.func91, Tryz.ntmps91
             go_wp2_with (first | (go_at_call 108; (try rw [← EQ.out]); refine (HES.out _ (by first | exact B8.out | exact B9.out | exact Below.refl _ _ | exact belowN (Below.refl _ _) _ | exact (belowN (Below.refl _ _) _).drew)).mono ?_; rintro e w7 ⟨rfl, hb7⟩; have B7 : Hid (Below w0.heap.size w0 w7) := (by first | exact LH (B8.out.trans (hb7.mono B8.out.size)) | exact LH (B9.out.trans (hb7.mono B9.out.size)) | exact LH hb7); clear hb7))
             go_ret
             refine ⟨ret_bool hx.out.symm, ?_⟩
             first | exact bT E B7 | exact bT E B8 | exact bT E B9 | exact E.out | exact belowN E.out _ | exact (belowN E.out _).drew | exact bA _ _ | exact belowN (bA _ _) _
            ·
             skip
             have hv := LH (show exp1 t.op t.n t.s t.t t.kids.length = false from by unfold exp1; simp [o1, o2, o3, o5, o6, o7, o9, a, te, b, hk])
             have hx := LH (show t.exp = false by rw [hte.out, hv.out]; rfl)
             obtain ⟨p1, r1, p2, r2, p3, r3, p4, r4, p5, r5, p6, r6, p7, r7, p9, r9, p15, r15, p16, r16⟩ := opf6 o9
             clear o1
             clear o2
             clear o3
             clear o5
             clear o6
             clear o7
             clear o9
             have an : (t.n != 0) = false := by simp only [bne, a]; rfl
             have hk1 : (t.kids.length == 3) = false := by simp [hk]
             have hk2 : ((t.kids.length : Int) == 3) = false := by rw [beq_eq_false_iff_ne]; omega
             have hk6 : ((t.kids.length : Int) != 3) = true := by simp only [bne, hk2]; rfl
             have hk7 : (t.kids.length != 3) = true := by simp only [bne, hk1]; rfl
             have Hhk := LH hk
             clear hk
             go_enter Tryz.func91, Tryz.ntmps91
             go_wp2_with fail
             go_ret
             refine ⟨ret_bool hx.out.symm, ?_⟩
             first | exact bT E B7 | exact bT E B8 | exact bT E B9 | exact E.out | exact belowN E.out _ | exact (belowN E.out _).drew | exact bA _ _ | exact belowN (bA _ _) _
        ·
         skip
         by_cases o15 : t.op = 15
         ·
          skip
          cases a : (t.n == 0)
          ·
           skip
           have hv := LH (show exp1 t.op t.n t.s t.t t.kids.length = false from by unfold exp1; simp [o1, o2, o3, o5, o6, o7, o9, o15, a])
           have hx := LH (show t.exp = false by rw [hte.out, hv.out]; rfl)
           obtain ⟨p1, r1, p2, r2, p3, r3, p4, r4, p5, r5, p6, r6, p7, r7, p9, r9, p15, r15, p16, r16⟩ := opf7 o15
           clear o1
           clear o2
           clear o3
           clear o5
           clear o6
           clear o7
           clear o9
           clear o15
           have an : (t.n != 0) = true := by simp only [bne, a]; rfl
           go_enter Tryz.func91, Tryz.ntmps91
           go_wp2_with fail
           go_ret
           refine ⟨ret_bool hx.out.symm, ?_⟩
           first | exact bT E B7 | exact bT E B8 | exact bT E B9 | exact E.out | exact belowN E.out _ | exact (belowN E.out _).drew | exact bA _ _ | exact belowN (bA _ _) _
          ·
           skip
           cases te : (t.t.toList.isEmpty)
           ·
            skip
            have hv := LH (show exp1 t.op t.n t.s t.t t.kids.length = false from by unfold exp1; simp [o1, o2, o3, o5, o6, o7, o9, o15, a, te])
            have hx := LH (show t.exp = false by rw [hte.out, hv.out]; rfl)
            obtain ⟨p1, r1, p2, r2, p3, r3, p4, r4, p5, r5, p6, r6, p7, r7, p9, r9, p15, r15, p16, r16⟩ := opf7 o15
            clear o1
            clear o2
            clear o3
            clear o5
            clear o6
            clear o7
            clear o9
            clear o15
            have an : (t.n != 0) = false := by simp only [bne, a]; rfl
            go_enter Tryz.func91, Tryz.ntmps91
            go_wp2_with fail
            go_ret
            refine ⟨ret_bool hx.out.symm, ?_⟩
            first | exact bT E B7 | exact bT E B8 | exact bT E B9 | exact E.out | exact belowN E.out _ | exact (belowN E.out _).drew | exact bA _ _ | exact belowN (bA _ _) _
           ·
            skip
            cases cn : (conB t.s)
            ·
             skip
             have hv := LH (show exp1 t.op t.n t.s t.t t.kids.length = false from by unfold exp1; simp [o1, o2, o3, o5, o6, o7, o9, o15, a, te, cn])
             have hx := LH (show t.exp = false by rw [hte.out, hv.out]; rfl)
             obtain ⟨p1, r1, p2, r2, p3, r3, p4, r4, p5, r5, p6, r6, p7, r7, p9, r9, p15, r15, p16, r16⟩ := opf7 o15
             clear o1
             clear o2
             clear o3
             clear o5
             clear o6
             clear o7
             clear o9
             clear o15
             have an : (t.n != 0) = false := by simp only [bne, a]; rfl
             have HCN := LH (fun (wx : World) => specCon t.s wx hsz2)
             rw [cn] at HCN
             clear cn
             go_enter Tryz.func91, Tryz.ntmps91
             go_wp2_with (first | (go_at_call 86; (try rw [← EQ.out]); with_reducible refine (HCN.out _).mono ?_; rintro e w6 ⟨rfl, rfl⟩))
             go_ret
             refine ⟨ret_bool hx.out.symm, ?_⟩
             first | exact bT E B7 | exact bT E B8 | exact bT E B9 | exact E.out | exact belowN E.out _ | exact (belowN E.out _).drew | exact bA _ _ | exact belowN (bA _ _) _
            ·
             skip
             have hv := LH (show exp1 t.op t.n t.s t.t t.kids.length = true from by unfold exp1; simp [o1, o2, o3, o5, o6, o7, o9, o15, a, te, cn])
             have hx := LH (show t.exp = GNode.expL t.kids by rw [hte.out, hv.out, if_neg (by omega)]; rfl)
             obtain ⟨p1, r1, p2, r2, p3, r3, p4, r4, p5, r5, p6, r6, p7, r7, p9, r9, p15, r15, p16, r16⟩ := opf7 o15
             clear o1
             clear o2
             clear o3
             clear o5
             clear o6
             clear o7
             clear o9
             clear o15
             have an : (t.n != 0) = false := by simp only [bne, a]; rfl
             have HCN := LH (fun (wx : World) => specCon t.s wx hsz2)
             rw [cn] at HCN
             clear cn
             go_enter Tryz.func91, Tryz.ntmps91
             go_wp2_with (first | (go_at_call 86; (try rw [← EQ.out]); with_reducible refine (HCN.out _).mono ?_; rintro e w6 ⟨rfl, rfl⟩) | (go_at_call 108; (try rw [← EQ.out]); refine (HES.out _ (by first | exact B8.out | exact B9.out | exact Below.refl _ _ | exact belowN (Below.refl _ _) _ | exact (belowN (Below.refl _ _) _).drew)).mono ?_; rintro e w7 ⟨rfl, hb7⟩; have B7 : Hid (Below w0.heap.size w0 w7) := (by first | exact LH (B8.out.trans (hb7.mono B8.out.size)) | exact LH (B9.out.trans (hb7.mono B9.out.size)) | exact LH hb7); clear hb7))
             go_ret
             refine ⟨ret_bool hx.out.symm, ?_⟩
             first | exact bT E B7 | exact bT E B8 | exact bT E B9 | exact E.out | exact belowN E.out _ | exact (belowN E.out _).drew | exact bA _ _ | exact belowN (bA _ _) _
         ·
          skip
          by_cases o16 : t.op = 16
          ·
           skip
           cases a : (t.n == 0)
           ·
            skip
            have hv := LH (show exp1 t.op t.n t.s t.t t.kids.length = false from by unfold exp1; simp [o1, o2, o3, o5, o6, o7, o9, o15, o16, a])
            have hx := LH (show t.exp = false by rw [hte.out, hv.out]; rfl)
            obtain ⟨p1, r1, p2, r2, p3, r3, p4, r4, p5, r5, p6, r6, p7, r7, p9, r9, p15, r15, p16, r16⟩ := opf8 o16
            clear o1
            clear o2
            clear o3
            clear o5
            clear o6
            clear o7
            clear o9
            clear o15
            clear o16
            have an : (t.n != 0) = true := by simp only [bne, a]; rfl
            go_enter Tryz.func91, Tryz.ntmps91
            go_wp2_with fail
            go_ret
            refine ⟨ret_bool hx.out.symm, ?_⟩
            first | exact bT E B7 | exact bT E B8 | exact bT E B9 | exact E.out | exact belowN E.out _ | exact (belowN E.out _).drew | exact bA _ _ | exact belowN (bA _ _) _
           ·
            skip
            cases te : (t.t.toList.isEmpty)
            ·
             skip
             have hv := LH (show exp1 t.op t.n t.s t.t t.kids.length = false from by unfold exp1; simp [o1, o2, o3, o5, o6, o7, o9, o15, o16, a, te])
             have hx := LH (show t.exp = false by rw [hte.out, hv.out]; rfl)
             obtain ⟨p1, r1, p2, r2, p3, r3, p4, r4, p5, r5, p6, r6, p7, r7, p9, r9, p15, r15, p16, r16⟩ := opf8 o16
             clear o1
             clear o2
             clear o3
             clear o5
             clear o6
             clear o7
             clear o9
             clear o15
             clear o16
             have an : (t.n != 0) = false := by simp only [bne, a]; rfl
             go_enter Tryz.func91, Tryz.ntmps91
             go_wp2_with fail
             go_ret
             refine ⟨ret_bool hx.out.symm, ?_⟩
             first | exact bT E B7 | exact bT E B8 | exact bT E B9 | exact E.out | exact belowN E.out _ | exact (belowN E.out _).drew | exact bA _ _ | exact belowN (bA _ _) _
            ·
             skip
             cases b : (t.s.toList.isEmpty)
             ·
              skip
              have hv := LH (show exp1 t.op t.n t.s t.t t.kids.length = false from by unfold exp1; simp [o1, o2, o3, o5, o6, o7, o9, o15, o16, a, te, b])
              have hx := LH (show t.exp = false by rw [hte.out, hv.out]; rfl)
              obtain ⟨p1, r1, p2, r2, p3, r3, p4, r4, p5, r5, p6, r6, p7, r7, p9, r9, p15, r15, p16, r16⟩ := opf8 o16
              clear o1
              clear o2
              clear o3
              clear o5
              clear o6
              clear o7
              clear o9
              clear o15
              clear o16
              have an : (t.n != 0) = false := by simp only [bne, a]; rfl
              go_enter Tryz.func91, Tryz.ntmps91
              go_wp2_with fail
              go_ret
              refine ⟨ret_bool hx.out.symm, ?_⟩
              first | exact bT E B7 | exact bT E B8 | exact bT E B9 | exact E.out | exact belowN E.out _ | exact (belowN E.out _).drew | exact bA _ _ | exact belowN (bA _ _) _
             ·
              skip
              by_cases hk : t.kids.length = 1
              ·
               skip
               have hv := LH (show exp1 t.op t.n t.s t.t t.kids.length = true from by unfold exp1; simp [o1, o2, o3, o5, o6, o7, o9, o15, o16, a, te, b, hk])
               have hx := LH (show t.exp = GNode.expL t.kids by rw [hte.out, hv.out, if_neg (by omega)]; rfl)
               obtain ⟨p1, r1, p2, r2, p3, r3, p4, r4, p5, r5, p6, r6, p7, r7, p9, r9, p15, r15, p16, r16⟩ := opf8 o16
               clear o1
               clear o2
               clear o3
               clear o5
               clear o6
               clear o7
               clear o9
               clear o15
               clear o16
               have an : (t.n != 0) = false := by simp only [bne, a]; rfl
               have hk1 : (t.kids.length == 1) = true := by simp [hk]
               have hk2 : ((t.kids.length : Int) == 1) = true := by rw [beq_iff_eq]; omega
               have hk6 : ((t.kids.length : Int) != 1) = false := by simp only [bne, hk2]; rfl
               have hk7 : (t.kids.length != 1) = false := by simp only [bne, hk1]; rfl
               have Hhk := LH hk
               clear hk
               go_enter Tryz.func91, Tryz.ntmps91
               go_wp2_with (first | (go_at_call 108; (try rw [← EQ.out]); refine (HES.out _ (by first | exact B8.out | exact B9.out | exact Below.refl _ _ | exact belowN (Below.refl _ _) _ | exact (belowN (Below.refl _ _) _).drew)).mono ?_; rintro e w7 ⟨rfl, hb7⟩; have B7 : Hid (Below w0.heap.size w0 w7) := (by first | exact LH (B8.out.trans (hb7.mono B8.out.size)) | exact LH (B9.out.trans (hb7.mono B9.out.size)) | exact LH hb7); clear hb7))
               go_ret
               refine ⟨ret_bool hx.out.symm, ?_⟩
               first | exact bT E B7 | exact bT E B8 | exact bT E B9 | exact E.out | exact belowN E.out _ | exact (belowN E.out _).drew | exact bA _ _ | exact belowN (bA _ _) _
              ·
               skip
               have hv := LH (show exp1 t.op t.n t.s t.t t.kids.length = false from by unfold exp1; simp [o1, o2, o3, o5, o6, o7, o9, o15, o16, a, te, b, hk])
               have hx := LH (show t.exp = false by rw [hte.out, hv.out]; rfl)
               obtain ⟨p1, r1, p2, r2, p3, r3, p4, r4, p5, r5, p6, r6, p7, r7, p9, r9, p15, r15, p16, r16⟩ := opf8 o16
               clear o1
               clear o2
               clear o3
               clear o5
               clear o6
               clear o7
               clear o9
               clear o15
               clear o16
               have an : (t.n != 0) = false := by simp only [bne, a]; rfl
               have hk1 : (t.kids.length == 1) = false := by simp [hk]
               have hk2 : ((t.kids.length : Int) == 1) = false := by rw [beq_eq_false_iff_ne]; omega
               have hk6 : ((t.kids.length : Int) != 1) = true := by simp only [bne, hk2]; rfl
               have hk7 : (t.kids.length != 1) = true := by simp only [bne, hk1]; rfl
               have Hhk := LH hk
               clear hk
               go_enter Tryz.func91, Tryz.ntmps91
               go_wp2_with fail
               go_ret
               refine ⟨ret_bool hx.out.symm, ?_⟩
               first | exact bT E B7 | exact bT E B8 | exact bT E B9 | exact E.out | exact belowN E.out _ | exact (belowN E.out _).drew | exact bA _ _ | exact belowN (bA _ _) _
          ·
           skip
           by_cases o4 : t.op = 4
           ·
            skip
            cases a : (t.n == 0)
            ·
             skip
             have hv := LH (show exp1 t.op t.n t.s t.t t.kids.length = false from by unfold exp1; simp [o1, o2, o3, o5, o6, o7, o9, o15, o16, o4, a])
             have hx := LH (show t.exp = false by rw [hte.out, hv.out]; rfl)
             obtain ⟨p1, r1, p2, r2, p3, r3, p4, r4, p5, r5, p6, r6, p7, r7, p9, r9, p15, r15, p16, r16⟩ := opf9 o4
             clear o1
             clear o2
             clear o3
             clear o5
             clear o6
             clear o7
             clear o9
             clear o15
             clear o16
             clear o4
             have an : (t.n != 0) = true := by simp only [bne, a]; rfl
             go_enter Tryz.func91, Tryz.ntmps91
             go_wp2_with fail
             go_ret
             refine ⟨ret_bool hx.out.symm, ?_⟩
             first | exact bT E B7 | exact bT E B8 | exact bT E B9 | exact E.out | exact belowN E.out _ | exact (belowN E.out _).drew | exact bA _ _ | exact belowN (bA _ _) _
            ·
             skip
             cases te : (t.t.toList.isEmpty)
             ·
              skip
              have hv := LH (show exp1 t.op t.n t.s t.t t.kids.length = false from by unfold exp1; simp [o1, o2, o3, o5, o6, o7, o9, o15, o16, o4, a, te])
              have hx := LH (show t.exp = false by rw [hte.out, hv.out]; rfl)
              obtain ⟨p1, r1, p2, r2, p3, r3, p4, r4, p5, r5, p6, r6, p7, r7, p9, r9, p15, r15, p16, r16⟩ := opf9 o4
              clear o1
              clear o2
              clear o3
              clear o5
              clear o6
              clear o7
              clear o9
              clear o15
              clear o16
              clear o4
              have an : (t.n != 0) = false := by simp only [bne, a]; rfl
              go_enter Tryz.func91, Tryz.ntmps91
              go_wp2_with fail
              go_ret
              refine ⟨ret_bool hx.out.symm, ?_⟩
              first | exact bT E B7 | exact bT E B8 | exact bT E B9 | exact E.out | exact belowN E.out _ | exact (belowN E.out _).drew | exact bA _ _ | exact belowN (bA _ _) _
             ·
              skip
              cases b : (t.s.toList.isEmpty)
              ·
               skip
               have hv := LH (show exp1 t.op t.n t.s t.t t.kids.length = false from by unfold exp1; simp [o1, o2, o3, o5, o6, o7, o9, o15, o16, o4, a, te, b])
               have hx := LH (show t.exp = false by rw [hte.out, hv.out]; rfl)
               obtain ⟨p1, r1, p2, r2, p3, r3, p4, r4, p5, r5, p6, r6, p7, r7, p9, r9, p15, r15, p16, r16⟩ := opf9 o4
               clear o1
               clear o2
               clear o3
               clear o5
               clear o6
               clear o7
               clear o9
               clear o15
               clear o16
               clear o4
               have an : (t.n != 0) = false := by simp only [bne, a]; rfl
               go_enter Tryz.func91, Tryz.ntmps91
               go_wp2_with fail
               go_ret
               refine ⟨ret_bool hx.out.symm, ?_⟩
               first | exact bT E B7 | exact bT E B8 | exact bT E B9 | exact E.out | exact belowN E.out _ | exact (belowN E.out _).drew | exact bA _ _ | exact belowN (bA _ _) _
              ·
               skip
               by_cases hk : t.kids.length = 2
               ·
                skip
                have hv := LH (show exp1 t.op t.n t.s t.t t.kids.length = true from by unfold exp1; simp [o1, o2, o3, o5, o6, o7, o9, o15, o16, o4, a, te, b, hk])
                have hx := LH (show t.exp = GNode.expL t.kids by rw [hte.out, hv.out, if_neg (by omega)]; rfl)
                obtain ⟨p1, r1, p2, r2, p3, r3, p4, r4, p5, r5, p6, r6, p7, r7, p9, r9, p15, r15, p16, r16⟩ := opf9 o4
                clear o1
                clear o2
                clear o3
                clear o5
                clear o6
                clear o7
                clear o9
                clear o15
                clear o16
                clear o4
                have an : (t.n != 0) = false := by simp only [bne, a]; rfl
                have hk1 : (t.kids.length == 2) = true := by simp [hk]
                have hk2 : ((t.kids.length : Int) == 2) = true := by rw [beq_iff_eq]; omega
                have hk6 : ((t.kids.length : Int) != 2) = false := by simp only [bne, hk2]; rfl
                have hk7 : (t.kids.length != 2) = false := by simp only [bne, hk1]; rfl
                have Hhk := LH hk
                clear hk
                go_enter Tryz.func91, Tryz.ntmps91
                go_wp2_with (first | (go_at_call 108; (try rw [← EQ.out]); refine (HES.out _ (by first | exact B8.out | exact B9.out | exact Below.refl _ _ | exact belowN (Below.refl _ _) _ | exact (belowN (Below.refl _ _) _).drew)).mono ?_; rintro e w7 ⟨rfl, hb7⟩; have B7 : Hid (Below w0.heap.size w0 w7) := (by first | exact LH (B8.out.trans (hb7.mono B8.out.size)) | exact LH (B9.out.trans (hb7.mono B9.out.size)) | exact LH hb7); clear hb7))
                go_ret
                refine ⟨ret_bool hx.out.symm, ?_⟩
                first | exact bT E B7 | exact bT E B8 | exact bT E B9 | exact E.out | exact belowN E.out _ | exact (belowN E.out _).drew | exact bA _ _ | exact belowN (bA _ _) _
               ·
                skip
                have hv := LH (show exp1 t.op t.n t.s t.t t.kids.length = false from by unfold exp1; simp [o1, o2, o3, o5, o6, o7, o9, o15, o16, o4, a, te, b, hk])
                have hx := LH (show t.exp = false by rw [hte.out, hv.out]; rfl)
                obtain ⟨p1, r1, p2, r2, p3, r3, p4, r4, p5, r5, p6, r6, p7, r7, p9, r9, p15, r15, p16, r16⟩ := opf9 o4
                clear o1
                clear o2
                clear o3
                clear o5
                clear o6
                clear o7
                clear o9
                clear o15
                clear o16
                clear o4
                have an : (t.n != 0) = false := by simp only [bne, a]; rfl
                have hk1 : (t.kids.length == 2) = false := by simp [hk]
                have hk2 : ((t.kids.length : Int) == 2) = false := by rw [beq_eq_false_iff_ne]; omega
                have hk6 : ((t.kids.length : Int) != 2) = true := by simp only [bne, hk2]; rfl
                have hk7 : (t.kids.length != 2) = true := by simp only [bne, hk1]; rfl
                have Hhk := LH hk
                clear hk
                go_enter Tryz.func91, Tryz.ntmps91
                go_wp2_with fail
                go_ret
                refine ⟨ret_bool hx.out.symm, ?_⟩
                first | exact bT E B7 | exact bT E B8 | exact bT E B9 | exact E.out | exact belowN E.out _ | exact (belowN E.out _).drew | exact bA _ _ | exact belowN (bA _ _) _
           ·
            skip
            cases a : (t.n == 0)
            ·
             skip
             have hv := LH (show exp1 t.op t.n t.s t.t t.kids.length = false from by unfold exp1; simp [o1, o2, o3, o5, o6, o7, o9, o15, o16, o4, a])
             have hx := LH (show t.exp = false by rw [hte.out, hv.out]; rfl)
             have p1 : (t.op == 1) = false := by simpa using o1
             have r1 : (t.op != 1) = true := by simp [bne, p1]
             have p2 : (t.op == 2) = false := by simpa using o2
             have r2 : (t.op != 2) = true := by simp [bne, p2]
             have p3 : (t.op == 3) = false := by simpa using o3
             have r3 : (t.op != 3) = true := by simp [bne, p3]
             have p4 : (t.op == 4) = false := by simpa using o4
             have r4 : (t.op != 4) = true := by simp [bne, p4]
             have p5 : (t.op == 5) = false := by simpa using o5
             have r5 : (t.op != 5) = true := by simp [bne, p5]
             have p6 : (t.op == 6) = false := by simpa using o6
             have r6 : (t.op != 6) = true := by simp [bne, p6]
             have p7 : (t.op == 7) = false := by simpa using o7
             have r7 : (t.op != 7) = true := by simp [bne, p7]
             have p9 : (t.op == 9) = false := by simpa using o9
             have r9 : (t.op != 9) = true := by simp [bne, p9]
             have p15 : (t.op == 15) = false := by simpa using o15
             have r15 : (t.op != 15) = true := by simp [bne, p15]
             have p16 : (t.op == 16) = false := by simpa using o16
             have r16 : (t.op != 16) = true := by simp [bne, p16]
             clear o1
             clear o2
             clear o3
             clear o5
             clear o6
             clear o7
             clear o9
             clear o15
             clear o16
             clear o4
             have an : (t.n != 0) = true := by simp only [bne, a]; rfl
             go_enter Tryz.func91, Tryz.ntmps91
             go_wp2_with fail
             go_ret
             refine ⟨ret_bool hx.out.symm, ?_⟩
             first | exact bT E B7 | exact bT E B8 | exact bT E B9 | exact E.out | exact belowN E.out _ | exact (belowN E.out _).drew | exact bA _ _ | exact belowN (bA _ _) _
            ·
             skip
             cases te : (t.t.toList.isEmpty)
             ·
              skip
              have hv := LH (show exp1 t.op t.n t.s t.t t.kids.length = false from by unfold exp1; simp [o1, o2, o3, o5, o6, o7, o9, o15, o16, o4, a, te])
              have hx := LH (show t.exp = false by rw [hte.out, hv.out]; rfl)
              have p1 : (t.op == 1) = false := by simpa using o1
              have r1 : (t.op != 1) = true := by simp [bne, p1]
              have p2 : (t.op == 2) = false := by simpa using o2
              have r2 : (t.op != 2) = true := by simp [bne, p2]
              have p3 : (t.op == 3) = false := by simpa using o3
              have r3 : (t.op != 3) = true := by simp [bne, p3]
              have p4 : (t.op == 4) = false := by simpa using o4
              have r4 : (t.op != 4) = true := by simp [bne, p4]
              have p5 : (t.op == 5) = false := by simpa using o5
              have r5 : (t.op != 5) = true := by simp [bne, p5]
              have p6 : (t.op == 6) = false := by simpa using o6
              have r6 : (t.op != 6) = true := by simp [bne, p6]
              have p7 : (t.op == 7) = false := by simpa using o7
              have r7 : (t.op != 7) = true := by simp [bne, p7]
              have p9 : (t.op == 9) = false := by simpa using o9
              have r9 : (t.op != 9) = true := by simp [bne, p9]
              have p15 : (t.op == 15) = false := by simpa using o15
              have r15 : (t.op != 15) = true := by simp [bne, p15]
              have p16 : (t.op == 16) = false := by simpa using o16
              have r16 : (t.op != 16) = true := by simp [bne, p16]
              clear o1
              clear o2
              clear o3
              clear o5
              clear o6
              clear o7
              clear o9
              clear o15
              clear o16
              clear o4
              have an : (t.n != 0) = false := by simp only [bne, a]; rfl
              go_enter Tryz.func91, Tryz.ntmps91
              go_wp2_with fail
              go_ret
              refine ⟨ret_bool hx.out.symm, ?_⟩
              first | exact bT E B7 | exact bT E B8 | exact bT E B9 | exact E.out | exact belowN E.out _ | exact (belowN E.out _).drew | exact bA _ _ | exact belowN (bA _ _) _
             ·
              skip
              cases iv : (inB t.op 10 14)
              ·
               skip
               have hv := LH (show exp1 t.op t.n t.s t.t t.kids.length = false from by unfold exp1; simp [o1, o2, o3, o5, o6, o7, o9, o15, o16, o4, a, te, iv])
               have hx := LH (show t.exp = false by rw [hte.out, hv.out]; rfl)
               have p1 : (t.op == 1) = false := by simpa using o1
               have r1 : (t.op != 1) = true := by simp [bne, p1]
               have p2 : (t.op == 2) = false := by simpa using o2
               have r2 : (t.op != 2) = true := by simp [bne, p2]
               have p3 : (t.op == 3) = false := by simpa using o3
               have r3 : (t.op != 3) = true := by simp [bne, p3]
               have p4 : (t.op == 4) = false := by simpa using o4
               have r4 : (t.op != 4) = true := by simp [bne, p4]
               have p5 : (t.op == 5) = false := by simpa using o5
               have r5 : (t.op != 5) = true := by simp [bne, p5]
               have p6 : (t.op == 6) = false := by simpa using o6
               have r6 : (t.op != 6) = true := by simp [bne, p6]
               have p7 : (t.op == 7) = false := by simpa using o7
               have r7 : (t.op != 7) = true := by simp [bne, p7]
               have p9 : (t.op == 9) = false := by simpa using o9
               have r9 : (t.op != 9) = true := by simp [bne, p9]
               have p15 : (t.op == 15) = false := by simpa using o15
               have r15 : (t.op != 15) = true := by simp [bne, p15]
               have p16 : (t.op == 16) = false := by simpa using o16
               have r16 : (t.op != 16) = true := by simp [bne, p16]
               clear o1
               clear o2
               clear o3
               clear o5
               clear o6
               clear o7
               clear o9
               clear o15
               clear o16
               clear o4
               have an : (t.n != 0) = false := by simp only [bne, a]; rfl
               have HIV := LH (fun (wx : World) => specIn t.op 10 14 wx)
               rw [iv] at HIV
               clear iv
               go_enter Tryz.func91, Tryz.ntmps91
               go_wp2_with (first | (go_at_call 87; (try rw [← EQ.out]); with_reducible refine (HIV.out _).mono ?_; rintro e w6 ⟨rfl, rfl⟩))
               go_ret
               refine ⟨ret_bool hx.out.symm, ?_⟩
               first | exact bT E B7 | exact bT E B8 | exact bT E B9 | exact E.out | exact belowN E.out _ | exact (belowN E.out _).drew | exact bA _ _ | exact belowN (bA _ _) _
              ·
               skip
               cases b : (t.s.toList.isEmpty)
               ·
                skip
                have hv := LH (show exp1 t.op t.n t.s t.t t.kids.length = false from by unfold exp1; simp [o1, o2, o3, o5, o6, o7, o9, o15, o16, o4, a, te, iv, b])
                have hx := LH (show t.exp = false by rw [hte.out, hv.out]; rfl)
                have p1 : (t.op == 1) = false := by simpa using o1
                have r1 : (t.op != 1) = true := by simp [bne, p1]
                have p2 : (t.op == 2) = false := by simpa using o2
                have r2 : (t.op != 2) = true := by simp [bne, p2]
                have p3 : (t.op == 3) = false := by simpa using o3
                have r3 : (t.op != 3) = true := by simp [bne, p3]
                have p4 : (t.op == 4) = false := by simpa using o4
                have r4 : (t.op != 4) = true := by simp [bne, p4]
                have p5 : (t.op == 5) = false := by simpa using o5
                have r5 : (t.op != 5) = true := by simp [bne, p5]
                have p6 : (t.op == 6) = false := by simpa using o6
                have r6 : (t.op != 6) = true := by simp [bne, p6]
                have p7 : (t.op == 7) = false := by simpa using o7
                have r7 : (t.op != 7) = true := by simp [bne, p7]
                have p9 : (t.op == 9) = false := by simpa using o9
                have r9 : (t.op != 9) = true := by simp [bne, p9]
                have p15 : (t.op == 15) = false := by simpa using o15
                have r15 : (t.op != 15) = true := by simp [bne, p15]
                have p16 : (t.op == 16) = false := by simpa using o16
                have r16 : (t.op != 16) = true := by simp [bne, p16]
                clear o1
                clear o2
                clear o3
                clear o5
                clear o6
                clear o7
                clear o9
                clear o15
                clear o16
                clear o4
                have an : (t.n != 0) = false := by simp only [bne, a]; rfl
                have HIV := LH (fun (wx : World) => specIn t.op 10 14 wx)
                rw [iv] at HIV
                clear iv
                go_enter Tryz.func91, Tryz.ntmps91
                go_wp2_with (first | (go_at_call 87; (try rw [← EQ.out]); with_reducible refine (HIV.out _).mono ?_; rintro e w6 ⟨rfl, rfl⟩))
                go_ret
                refine ⟨ret_bool hx.out.symm, ?_⟩
                first | exact bT E B7 | exact bT E B8 | exact bT E B9 | exact E.out | exact belowN E.out _ | exact (belowN E.out _).drew | exact bA _ _ | exact belowN (bA _ _) _
               ·
                skip
                by_cases hk : t.kids.length = 2
                ·
                 skip
                 have hv := LH (show exp1 t.op t.n t.s t.t t.kids.length = true from by unfold exp1; simp [o1, o2, o3, o5, o6, o7, o9, o15, o16, o4, a, te, iv, b, hk])
                 have hx := LH (show t.exp = GNode.expL t.kids by rw [hte.out, hv.out, if_neg (by omega)]; rfl)
                 have p1 : (t.op == 1) = false := by simpa using o1
                 have r1 : (t.op != 1) = true := by simp [bne, p1]
                 have p2 : (t.op == 2) = false := by simpa using o2
                 have r2 : (t.op != 2) = true := by simp [bne, p2]
                 have p3 : (t.op == 3) = false := by simpa using o3
                 have r3 : (t.op != 3) = true := by simp [bne, p3]
                 have p4 : (t.op == 4) = false := by simpa using o4
                 have r4 : (t.op != 4) = true := by simp [bne, p4]
                 have p5 : (t.op == 5) = false := by simpa using o5
                 have r5 : (t.op != 5) = true := by simp [bne, p5]
                 have p6 : (t.op == 6) = false := by simpa using o6
                 have r6 : (t.op != 6) = true := by simp [bne, p6]
                 have p7 : (t.op == 7) = false := by simpa using o7
                 have r7 : (t.op != 7) = true := by simp [bne, p7]
                 have p9 : (t.op == 9) = false := by simpa using o9
                 have r9 : (t.op != 9) = true := by simp [bne, p9]
                 have p15 : (t.op == 15) = false := by simpa using o15
                 have r15 : (t.op != 15) = true := by simp [bne, p15]
                 have p16 : (t.op == 16) = false := by simpa using o16
                 have r16 : (t.op != 16) = true := by simp [bne, p16]
                 clear o1
                 clear o2
                 clear o3
                 clear o5
                 clear o6
                 clear o7
                 clear o9
                 clear o15
                 clear o16
                 clear o4
                 have an : (t.n != 0) = false := by simp only [bne, a]; rfl
                 have hk1 : (t.kids.length == 2) = true := by simp [hk]
                 have hk2 : ((t.kids.length : Int) == 2) = true := by rw [beq_iff_eq]; omega
                 have hk6 : ((t.kids.length : Int) != 2) = false := by simp only [bne, hk2]; rfl
                 have hk7 : (t.kids.length != 2) = false := by simp only [bne, hk1]; rfl
                 have Hhk := LH hk
                 clear hk
                 have HIV := LH (fun (wx : World) => specIn t.op 10 14 wx)
                 rw [iv] at HIV
                 clear iv
                 go_enter Tryz.func91, Tryz.ntmps91
                 go_wp2_with (first | (go_at_call 87; (try rw [← EQ.out]); with_reducible refine (HIV.out _).mono ?_; rintro e w6 ⟨rfl, rfl⟩) | (go_at_call 108; (try rw [← EQ.out]); refine (HES.out _ (by first | exact B8.out | exact B9.out | exact Below.refl _ _ | exact belowN (Below.refl _ _) _ | exact (belowN (Below.refl _ _) _).drew)).mono ?_; rintro e w7 ⟨rfl, hb7⟩; have B7 : Hid (Below w0.heap.size w0 w7) := (by first | exact LH (B8.out.trans (hb7.mono B8.out.size)) | exact LH (B9.out.trans (hb7.mono B9.out.size)) | exact LH hb7); clear hb7))
                 go_ret
                 refine ⟨ret_bool hx.out.symm, ?_⟩
                 first | exact bT E B7 | exact bT E B8 | exact bT E B9 | exact E.out | exact belowN E.out _ | exact (belowN E.out _).drew | exact bA _ _ | exact belowN (bA _ _) _
                ·
                 skip
                 have hv := LH (show exp1 t.op t.n t.s t.t t.kids.length = false from by unfold exp1; simp [o1, o2, o3, o5, o6, o7, o9, o15, o16, o4, a, te, iv, b, hk])
                 have hx := LH (show t.exp = false by rw [hte.out, hv.out]; rfl)
                 have p1 : (t.op == 1) = false := by simpa using o1
                 have r1 : (t.op != 1) = true := by simp [bne, p1]
                 have p2 : (t.op == 2) = false := by simpa using o2
                 have r2 : (t.op != 2) = true := by simp [bne, p2]
                 have p3 : (t.op == 3) = false := by simpa using o3
                 have r3 : (t.op != 3) = true := by simp [bne, p3]
                 have p4 : (t.op == 4) = false := by simpa using o4
                 have r4 : (t.op != 4) = true := by simp [bne, p4]
                 have p5 : (t.op == 5) = false := by simpa using o5
                 have r5 : (t.op != 5) = true := by simp [bne, p5]
                 have p6 : (t.op == 6) = false := by simpa using o6
                 have r6 : (t.op != 6) = true := by simp [bne, p6]
                 have p7 : (t.op == 7) = false := by simpa using o7
                 have r7 : (t.op != 7) = true := by simp [bne, p7]
                 have p9 : (t.op == 9) = false := by simpa using o9
                 have r9 : (t.op != 9) = true := by simp [bne, p9]
                 have p15 : (t.op == 15) = false := by simpa using o15
                 have r15 : (t.op != 15) = true := by simp [bne, p15]
                 have p16 : (t.op == 16) = false := by simpa using o16
                 have r16 : (t.op != 16) = true := by simp [bne, p16]
                 clear o1
                 clear o2
                 clear o3
                 clear o5
                 clear o6
                 clear o7
                 clear o9
                 clear o15
                 clear o16
                 clear o4
                 have an : (t.n != 0) = false := by simp only [bne, a]; rfl
                 have hk1 : (t.kids.length == 2) = false := by simp [hk]
                 have hk2 : ((t.kids.length : Int) == 2) = false := by rw [beq_eq_false_iff_ne]; omega
                 have hk6 : ((t.kids.length : Int) != 2) = true := by simp only [bne, hk2]; rfl
                 have hk7 : (t.kids.length != 2) = true := by simp only [bne, hk1]; rfl
                 have Hhk := LH hk
                 clear hk
                 have HIV := LH (fun (wx : World) => specIn t.op 10 14 wx)
                 rw [iv] at HIV
                 clear iv
                 go_enter Tryz.func91, Tryz.ntmps91
                 go_wp2_with (first | (go_at_call 87; (try rw [← EQ.out]); with_reducible refine (HIV.out _).mono ?_; rintro e w6 ⟨rfl, rfl⟩))
                 go_ret
                 refine ⟨ret_bool hx.out.symm, ?_⟩
                 first | exact bT E B7 | exact bT E B8 | exact bT E B9 | exact E.out | exact belowN E.out _ | exact (belowN E.out _).drew | exact bA _ _ | exact belowN (bA _ _) _
structure Up (W : World) where
 v : World
 h : Below W.heap.size W v
instance upNonempty (W : World) : Nonempty (Up W) := ⟨⟨W, Below.refl _ _⟩⟩
theorem wp_region_up {P : Program} {id : Nat} {Q : Exit → Act → World → Prop} {a : Act} {w : World} {l : List Oper} (W : World) (hW : Below W.heap.size W w) (hm : P.follows .mixedOrders = true) (hB : Region.lexB .any l.toArray = true)
 (h : wpQuiet P l.toArray (fun w' => ∃ x : Up W, w' = x.v) (fun a' => ∀ w', (∃ x : Up W, w' = x.v) → Q .normal a' w') l a) : (Code.region id l.toArray true).wp P Q a w :=
 wp_region_quiet (C := fun w' => ∃ x : Up W, w' = x.v) hm hB ⟨⟨_, hW.drew⟩, rfl⟩ h
theorem upCall {P : Program} {f : FuncId} {args : Array Value} {W : World} {x : Up W} {v : Value}
 (h : Calls P f args x.v fun e w' => e = .returned v ∧ Below x.v.heap.size x.v w') : Calls P f args x.v fun e w'' => e = .returned v ∧ ∃ y : Up W, w'' = y.v :=
 h.mono fun _ w' ⟨he, hb⟩ => ⟨he, ⟨w', x.h.trans (hb.mono x.h.size)⟩, rfl⟩
theorem upCell {W : World} {p : Addr} {v : Value} (hp : p.block < W.heap.size) (h : W.cell? p = some v) (x : Up W) : x.v.cell? p = some v := (x.h.cell hp).trans h
theorem upRow {W : World} {k : Nat} {t : TypeId} {cs : Array Value} (h : Row W k t cs) (x : Up W) (i : Nat) : x.v.cell? ⟨k, i, none⟩ = cs[i]? := (h.below x.h h.lt).cell i
end Go.Proofs.YtjjikciggbnjmaaGreat
namespace Go.Proofs.YtjjikciggbnjmaaGreat
set_option maxRecDepth 20000
set_option linter.unusedVariables false
set_option linter.unusedSimpArgs false
open Go.RowKit Go.BigFrame
set_option maxHeartbeats 4000000
theorem anyT_take {α : Type} {p : α → Bool} {l : List α} {j : Nat} (h : j < l.length) : (l.take (j + 1)).any p = ((l.take j).any p || p l[j]) := by
 rw [List.take_succ_eq_append_getElem h, List.any_append]; simp
theorem anyT_hit {α : Type} {p : α → Bool} {l : List α} {j : Nat} (h : j < l.length) (e : p l[j] = true) : l.any p = true := List.any_eq_true.2 ⟨_, List.getElem_mem h, e⟩
theorem specTidy (p : GProg) (A1 : Option Addr) (c1 : Nat) (A2 : Option Addr) (c2 : Nat) (w : World) (hb : p.bulk ≤ 1048576) (hat : GProg.At w (Lt w.heap.size) A1 c1 A2 c2 p) :
 Calls Tryz.prog 56 #[.agg #[.slice A1 p.datas.length c1, .int .i64 p.main.op, .int .i64 p.main.n, .string p.main.s, .string p.main.t, .slice A2 p.main.kids.length c2]] w fun e w' => e = .returned (.bool (tidyP p)) ∧ Below w.heap.size w w' := by
 have hbe := p.bulk_eq
 have HBM := LH (show p.main.bulk ≤ 1048576 by omega)
 have HBD := LH (show bulkL GData.bulk p.datas ≤ 1048576 by omega)
 obtain ⟨hs, hm⟩ := hat
 have hlen : p.datas.length ≤ 9223372036854775807 := by simpa using hs.len
 have S0 := LH hs
 have M0 := LH hm
 have HVD := LH (fun (h : p.datas.any badG = true) => tidyP_data h)
 have HVM := LH (fun (h : p.datas.any badG = false) => tidyP_main h)
 obtain ⟨pd, hpd⟩ : ∃ pd : GData → Bool, pd = badG := ⟨_, rfl⟩
 have HPD := LH hpd
 rw [← hpd] at HVD HVM
 have R0 := LH (Row.new w 82 #[.slice A1 p.datas.length c1, .int .i64 p.main.op, .int .i64 p.main.n, .string p.main.s, .string p.main.t, .slice A2 p.main.kids.length c2])
 have E0 := LH (show Below w.heap.size w (w.alloc (.cells #[.slice A1 p.datas.length c1, .int .i64 p.main.op, .int .i64 p.main.n, .string p.main.s, .string p.main.t, .slice A2 p.main.kids.length c2] 82)) from (Below.refl _ _).alloc (Nat.le_refl _) _)
 clear hb hbe hs hm hpd
 go_enter Tryz.func56, Tryz.ntmps56
 go_wp2_with fail
 go_loopw [3] (fun i wr => ∃ (j : Nat), j ≤ p.datas.length ∧ i = .int .i64 j ∧ Hid ((p.datas.take j).any pd = false) ∧ Hid (Row wr w.heap.size 82 #[.slice A1 p.datas.length c1, .int .i64 p.main.op, .int .i64 p.main.n, .string p.main.s, .string p.main.t, .slice A2 p.main.kids.length c2]) ∧ Below w.heap.size w wr) (fun i _ => p.datas.length - (intOf i).toNat)
 case atStart => exact ⟨0, by omega, by go_num, LH (by simp), R0, E0.out⟩
 case round =>
  clear R0 E0
  obtain ⟨j, hj, rfl, HN, HR, hbl⟩ := hrel
  rename World => wo
  have hsz := hbl.size
  have hR := fun i => HR.out.cell i
  have hRl := HR.out.lt
  by_cases hlt : j < p.datas.length
  ·
   obtain ⟨b, off, B1, d1, rfl, hSb, g0, g1, g2, hatd⟩ := GData.elem (S0.out.below hbl (Nat.le_refl _)) j hlt
   have hns : (p.datas[j]).name.size ≤ 9223372036854775807 := by have := hatd.1; unfold maxLen at this; omega
   have hcl : (p.datas[j]).cons.length ≤ 9223372036854775807 := by simpa using hatd.2.2.len
   have S1 := LH hatd.2.2
   have HBJ := LH (fun (k m : Nat) (hk : k < (p.datas[j]).cons.length) (hm : m < ((p.datas[j]).cons[k]).args.length) => Nat.le_trans (arg_bulk hlt hk hm) HBD.out)
   have HG := LH (show pd p.datas[j] = badG p.datas[j] by rw [HPD.out])
   have HT := LH (anyT_take (p := pd) hlt)
   have HH := LH (fun (e : pd p.datas[j] = true) => HVD.out (anyT_hit hlt e))
   obtain ⟨d, hd⟩ : ∃ d, d = p.datas[j] := ⟨_, rfl⟩
   rw [← hd] at g0 g1 g2 hns hcl S1 HG HT HH
   have E1 := LH (show Below wo.heap.size wo (wo.alloc (.cells #[.string d.name, .int .i64 d.vars, .slice B1 d.cons.length d1] 92)) from (Below.refl _ _).alloc (Nat.le_refl _) _)
   have RD := LH (Row.new wo 92 #[.string d.name, .int .i64 d.vars, .slice B1 d.cons.length d1])
   have RP := LH (HR.out.below E1.out hRl)
   have B1' := LH (hbl.trans (E1.out.mono hsz))
   have HBJ2 := LH (show ∀ (k m : Nat) (hk : k < d.cons.length) (hm : m < (d.cons[k]).args.length), ((d.cons[k]).args[m]).bulk ≤ 1048576 by rw [hd]; exact HBJ.out)
   clear hatd HBJ hd
   have HCN := LH (fun (wx : World) => specCon d.name wx hns)
   have HIV := LH (fun (wx : World) => specIn d.vars 0 26 wx)
   cases hcn : conB d.name
   ·
    have HX := LH (HH.out (HG.out.trans (badG_name hcn)))
    rw [hcn] at HCN
    clear hcn
    go_wp2_with fail
    refine (HCN.out _).mono ?_
    rintro e w1 ⟨rfl, rfl⟩
    go_wp2_with fail
    go_ret
    exact ⟨ret_bool HX.out.symm, B1'.out⟩
   have HCN1 := LH hcn
   rw [hcn] at HCN
   clear hcn
   cases hiv : inB d.vars 0 26
   ·
    have HX := LH (HH.out (HG.out.trans (badG_vars hiv)))
    rw [hiv] at HIV
    clear hiv
    go_wp2_with fail
    refine (HCN.out _).mono ?_
    rintro e w1 ⟨rfl, rfl⟩
    go_wp2_with fail
    refine (HIV.out _).mono ?_
    rintro e w1 ⟨rfl, rfl⟩
    go_wp2_with fail
    go_ret
    exact ⟨ret_bool HX.out.symm, B1'.out⟩
   have HIV1 := LH hiv
   have hv01 : 0 ≤ d.vars ∧ d.vars ≤ 26 := by have := hiv; unfold inB at this; simpa using this
   rw [hiv] at HIV
   clear hiv
   by_cases hc0 : d.cons.length = 0
   ·
    have HX := LH (HH.out (HG.out.trans (badG_none hc0)))
    have e1 : ((d.cons.length : Int) == 0) = true := by rw [hc0]; rfl
    clear hc0
    go_wp2_with fail
    refine (HCN.out _).mono ?_
    rintro e w1 ⟨rfl, rfl⟩
    go_wp2_with fail
    refine (HIV.out _).mono ?_
    rintro e w1 ⟨rfl, rfl⟩
    go_wp2_with fail
    go_ret
    exact ⟨ret_bool HX.out.symm, B1'.out⟩
   have HNO := LH (fun (h : d.cons.any (badK d.vars) = false) => HG.out.trans (badG_not HCN1.out HIV1.out hc0 h))
   have HYE := LH (fun (h : d.cons.any (badK d.vars) = true) => HH.out (HG.out.trans (badG_con h)))
   have HTY := LH (fun (t : GTy) (X : Option Addr) (cx : Nat) (wx : World) (hx : GTy.At wx (Lt wx.heap.size) X cx t) => specTypeTidy d.vars hv01.1 hv01.2 (t.bulk + 1) t X cx wx (by omega) hx)
   have HDT := LH (fun (t : GTy) (X : Option Addr) (cx : Nat) (wx : World) (hbx : t.bulk ≤ 1048576) (hx : GTy.At wx (Lt wx.heap.size) X cx t) => specDeepTy t.deep t X cx wx (Nat.le_refl _) (by have := t.deep_bulk; omega) hx)
   have e1 : ((d.cons.length : Int) == 0) = false := by rw [beq_eq_false_iff_ne]; omega
   obtain ⟨pk, hpk⟩ : ∃ pk : GCon → Bool, pk = badK d.vars := ⟨_, rfl⟩
   have HPK := LH hpk
   rw [← hpk] at HNO HYE
   clear hpk hv01 hc0
   go_wp2_with fail
   refine (HCN.out _).mono ?_
   rintro e w1 ⟨rfl, rfl⟩
   go_wp2_with fail
   refine (HIV.out _).mono ?_
   rintro e w1 ⟨rfl, rfl⟩
   go_wp2_with fail
   go_loopw [5] (fun i wr2 => ∃ (k : Nat), k ≤ d.cons.length ∧ i = .int .i64 k ∧ Hid ((d.cons.take k).any pk = false) ∧ Hid (Row wr2 w.heap.size 82 #[.slice (some ⟨b, off, none⟩) p.datas.length c1, .int .i64 p.main.op, .int .i64 p.main.n, .string p.main.s, .string p.main.t, .slice A2 p.main.kids.length c2]) ∧ Hid (Row wr2 wo.heap.size 92 #[.string d.name, .int .i64 d.vars, .slice B1 d.cons.length d1]) ∧ Below w.heap.size w wr2) (fun i _ => d.cons.length - (intOf i).toNat)
   case atStart => exact ⟨0, by omega, by go_num, LH (by simp), RP, RD, B1'.out⟩
   case round =>
    clear RP RD B1'
    obtain ⟨k, hk, rfl, HK, HRP, HRD, hbk⟩ := hrel
    have hszk := hbk.size
    have hRD := fun i => HRD.out.cell i
    have hRDl := HRD.out.lt
    have hRPl := HRP.out.lt
    have S2 := LH (S1.out.keep (w' := wr) (S' := Lt w.heap.size) (fun q hq => ⟨hq, (hbk.block q hq).trans (hbl.block q hq).symm⟩))
    by_cases hkt : k < d.cons.length
    ·
     obtain ⟨b2, off2, C2, e2, rfl, hSb2, p0, p1, hatc⟩ := GCon.elem S2.out k hkt
     have hks : (d.cons[k]).name.size ≤ 9223372036854775807 := by have := hatc.1; unfold maxLen at this; omega
     have hal : (d.cons[k]).args.length ≤ 9223372036854775807 := by simpa using hatc.2.len
     have HKT := LH (anyT_take (p := pk) hkt)
     have HKH := LH (fun (e : pk d.cons[k] = true) => HYE.out (anyT_hit hkt e))
     have HKG := LH (show pk d.cons[k] = (!conB (d.cons[k]).name || (d.cons[k]).args.any (badA d.vars)) by rw [HPK.out]; rfl)
     have HBK := LH (HBJ2.out k)
     obtain ⟨q, hq⟩ : ∃ q, q = d.cons[k] := ⟨_, rfl⟩
     have HBQ := LH (show ∀ (m : Nat) (hm : m < q.args.length), (q.args[m]).bulk ≤ 1048576 by rw [hq]; exact fun m hm => HBK.out m hkt hm)
     rw [← hq] at p0 p1 hks hal HKT HKH HKG
     have HQ := LH hq
     clear hatc HBK hq
     have HCK := LH (fun (wx : World) => specCon q.name wx hks)
     cases hck : conB q.name
     · have HX := LH (HKH.out (by rw [HKG.out, hck]; rfl))
       rw [hck] at HCK
       clear hck
       go_wp2_with fail
       refine (HCK.out _).mono ?_
       rintro e w1 ⟨rfl, rfl⟩
       go_wp2_with fail
       go_ret
       exact ⟨ret_bool HX.out.symm, hbk⟩
     have HKV := LH (show pk q = q.args.any (badA d.vars) by rw [HKG.out, hck]; rfl)
     rw [hck] at HCK
     clear hck
     obtain ⟨pa, hpa⟩ : ∃ pa : GTy → Bool, pa = badA d.vars := ⟨_, rfl⟩
     have HPA := LH hpa
     rw [← hpa] at HKV
     clear hpa
     go_wp2_with fail
     refine (HCK.out _).mono ?_
     rintro e w1 ⟨rfl, rfl⟩
     go_wp2_with fail
     rename World => wk
     go_loopw [6] (fun i wr3 => ∃ (m : Nat), m ≤ q.args.length ∧ i = .int .i64 m ∧ Hid ((q.args.take m).any pa = false) ∧ Hid (Row wr3 w.heap.size 82 #[.slice (some ⟨b, off, none⟩) p.datas.length c1, .int .i64 p.main.op, .int .i64 p.main.n, .string p.main.s, .string p.main.t, .slice A2 p.main.kids.length c2]) ∧ Hid (Row wr3 wo.heap.size 92 #[.string d.name, .int .i64 d.vars, .slice (some ⟨b2, off2, none⟩) d.cons.length d1]) ∧ Below w.heap.size w wr3) (fun i _ => q.args.length - (intOf i).toNat)
     case atStart => exact ⟨0, by omega, by go_num, LH (by simp), HRP, HRD, hbk⟩
     case round =>
      clear hRD hRDl hRPl HRP HRD p0 p1
      obtain ⟨m, hm, rfl, HM, HRP, HRD, hbm⟩ := hrel
      have hszm := hbm.size
      have hRD := fun i => HRD.out.cell i
      have hRDl := HRD.out.lt
      have hRPl := HRP.out.lt
      have S4 := LH (S2.out.keep (w' := wr) (S' := Lt w.heap.size) (fun q hq => ⟨hq, (hbm.block q hq).trans (hbk.block q hq).symm⟩))
      obtain ⟨b3, off3, A3, c3, eA3, hSb3, p0, p1, hat3⟩ := GCon.elem S4.out k hkt
      simp only [Option.some.injEq, Addr.mk.injEq, and_true] at eA3
      obtain ⟨rfl, rfl⟩ := eA3
      have hq := HQ.out
      rw [← hq] at p0 p1 hat3
      clear hq
      by_cases hmt : m < q.args.length
      ·
       obtain ⟨b5, off5, A5, c5, rfl, hSb5, x0, x1, x2, x3, hat5⟩ := GTy.elem hat3.2 m hmt
       have HMT := LH (anyT_take (p := pa) hmt)
       have HMH := LH (fun (e : pa q.args[m] = true) => HKH.out (HKV.out.trans (anyT_hit hmt e)))
       have HMG := LH (show pa q.args[m] = (decide (24 < (q.args[m]).deep) || !(q.args[m]).tidy d.vars) by rw [HPA.out]; rfl)
       have HBT := LH (HBQ.out m hmt)
       obtain ⟨t, ht⟩ : ∃ t, t = q.args[m] := ⟨_, rfl⟩
       rw [← ht] at x0 x1 x2 x3 hat5 HMT HMH HMG HBT
       have HD := LH (fun (wx : World) (hb : Below wr.heap.size wr wx) => HDT.out t A5 c5 wx HBT.out (hat5.keep (fun q hq => ⟨Nat.lt_of_lt_of_le hq (Nat.le_trans hszm hb.size), hb.block q (Nat.lt_of_lt_of_le hq hszm)⟩)))
       have HE := LH (fun (wx : World) (hb : Below wr.heap.size wr wx) => HTY.out t A5 c5 wx (hat5.keep (fun q hq => ⟨Nat.lt_of_lt_of_le hq (Nat.le_trans hszm hb.size), hb.block q (Nat.lt_of_lt_of_le hq hszm)⟩)))
       have l2 : b2 < wr.heap.size := Nat.lt_of_lt_of_le hSb2 hszm
       have l5 : b5 < wr.heap.size := Nat.lt_of_lt_of_le hSb5 hszm
       have BM := LH hbm
       have HDV := LH HRD
       clear hat3 hat5 ht
       cases hdp : decide (24 < t.deep)
       ·
        have hd1 : decide ((24 : Int) < (t.deep : Int)) = false := by rw [decide_eq_false_iff_not] at hdp ⊢; omega
        have hd2 : ¬ ((24 : Int) < (t.deep : Int)) := by simpa using hd1
        have hd3 : ¬ (24 < t.deep) := by omega
        have hd4 : decide (24 < t.deep) = false := decide_eq_false hd3
        cases htd : t.tidy d.vars
        all_goals
         rw [htd] at HE
         have HMV := LH (HMG.out.trans (by rw [hdp, htd]))
         clear hdp htd
         go_wp2_with fail
         have q0 := upRow HRD.out
         have q1 := upCell (p := ⟨b2, off2 + k * 2 + 1, none⟩) l2 p1
         have q2 := upCell (p := ⟨b5, off5 + m * 4, none⟩) l5 x0
         have q3 := upCell (p := ⟨b5, off5 + m * 4 + 1, none⟩) l5 x1
         have q4 := upCell (p := ⟨b5, off5 + m * 4 + 2, none⟩) l5 x2
         have q5 := upCell (p := ⟨b5, off5 + m * 4 + 3, none⟩) l5 x3
         refine wp_region_up wr (Below.refl _ _) (by kernel_rfl) (by kernel_rfl) ?_
         repeat (go_big_quiet_step (first
           | (go_at_call 88; exact upCall (HD.out _ (Up.h _)))
           | (go_at_call 89; exact upCall (HE.out _ (Up.h _)))))
         refine wpQuiet_nil ?_
         rintro w9 ⟨x9, e9⟩
         have B9 := LH (show Below wr.heap.size wr w9 by rw [e9]; exact x9.h)
         have RD9 := LH (HRD.out.below B9.out hRDl)
         clear e9 x9 q0 q1 q2 q3 q4 q5
         go_wp2_with fail
         first
         | (go_ret; first | exact ⟨ret_bool (HMH.out HMV.out).symm, BM.out.trans (B9.out.mono BM.out.size)⟩ | exact ⟨ret_bool (HMH.out HMV.out).symm, (BM.out.trans (B9.out.mono BM.out.size)).drew⟩ | exact ⟨ret_bool (HMH.out HMV.out).symm, belowN (BM.out.trans (B9.out.mono BM.out.size)) _⟩)
         | (go_roundw
            case rel => exact ⟨m + 1, by omega, by go_num, LH (by rw [HMT.out, HM.out, HMV.out]; rfl), LH (HRP.out.below B9.out hRPl), RD9, BM.out.trans (B9.out.mono BM.out.size)⟩
            case measure => simp [intOf]; omega)
       ·
        have hd1 : decide ((24 : Int) < (t.deep : Int)) = true := by rw [decide_eq_true_eq] at hdp ⊢; omega
        have hd2 : (24 : Int) < (t.deep : Int) := by simpa using hd1
        have hd3 : 24 < t.deep := by omega
        have hd4 : decide (24 < t.deep) = true := decide_eq_true hd3
        have HX := LH (HMH.out (HMG.out.trans (by rw [hdp]; rfl)))
        clear hdp
        go_wp2_with fail
        have q0 := upRow HRD.out
        have q1 := upCell (p := ⟨b2, off2 + k * 2 + 1, none⟩) l2 p1
        have q2 := upCell (p := ⟨b5, off5 + m * 4, none⟩) l5 x0
        have q3 := upCell (p := ⟨b5, off5 + m * 4 + 1, none⟩) l5 x1
        have q4 := upCell (p := ⟨b5, off5 + m * 4 + 2, none⟩) l5 x2
        have q5 := upCell (p := ⟨b5, off5 + m * 4 + 3, none⟩) l5 x3
        refine wp_region_up wr (Below.refl _ _) (by kernel_rfl) (by kernel_rfl) ?_
        repeat (go_big_quiet_step (first
          | (go_at_call 88; exact upCall (HD.out _ (Up.h _)))
          | (go_at_call 89; exact upCall (HE.out _ (Up.h _)))))
        refine wpQuiet_nil ?_
        rintro w9 ⟨x9, e9⟩
        have B9 := LH (show Below wr.heap.size wr w9 by rw [e9]; exact x9.h)
        have RD9 := LH (HRD.out.below B9.out hRDl)
        clear e9 x9 q0 q1 q2 q3 q4 q5
        go_wp2_with fail
        go_ret
        first | exact ⟨ret_bool HX.out.symm, BM.out.trans (B9.out.mono BM.out.size)⟩ | exact ⟨ret_bool HX.out.symm, (BM.out.trans (B9.out.mono BM.out.size)).drew⟩ | exact ⟨ret_bool HX.out.symm, belowN (BM.out.trans (B9.out.mono BM.out.size)) _⟩
      · have HM2 := LH (show pk q = false by have := HM.out; rw [show m = q.args.length by omega, List.take_length] at this; rw [HKV.out]; exact this)
        go_wp2_with fail
        go_roundw
        case rel => exact ⟨k + 1, by omega, by go_num, LH (by rw [HKT.out, HK.out, HM2.out]; rfl), HRP, HRD, hbm⟩
        case measure => simp [intOf]; omega
    · have HK2 := LH (show d.cons.any pk = false by have := HK.out; rwa [show k = d.cons.length by omega, List.take_length] at this)
      have HN2 := LH (show (p.datas.take (j + 1)).any pd = false by rw [HT.out, HN.out, HNO.out HK2.out]; rfl)
      go_wp2_with fail
      go_roundw
      case rel => exact ⟨j + 1, by omega, by go_num, HN2, HRP, hbk⟩
      case measure => simp [intOf]; omega
  ·
   have HN2 := LH (show p.datas.any pd = false by have := HN.out; rwa [show j = p.datas.length by omega, List.take_length] at this)
   have HV := LH (HVM.out HN2.out)
   have HMA := LH (M0.out.below hbl hsz)
   have HDM := LH (fun (wx : World) (hx : GNode.At wx (Lt wx.heap.size) A2 c2 p.main) => specDeep p.main.deep p.main A2 c2 wx (Nat.le_refl _) (by have := p.main.deep_bulk; have := HBM.out; omega) hx)
   have HEM := LH (fun (wx : World) (hx : GNode.At wx (Lt wx.heap.size) A2 c2 p.main) => specExp (p.main.bulk + 1) p.main A2 c2 wx (by omega) hx)
   by_cases hdm : p.main.deep ≤ 24
   ·
    have hd1 : (p.main.deep : Int) ≤ 24 := by omega
    have HVX := LH (HV.out.trans (by rw [decide_eq_true hdm, Bool.true_and]))
    clear hdm
    go_wp2_with fail
    refine (HDM.out _ HMA.out).mono ?_
    rintro e w1 ⟨rfl, hb1⟩
    have B1 := LH (hbl.trans (hb1.mono hsz))
    have R1 := LH (HR.out.below hb1 hRl)
    have hR1 := fun i => R1.out.cell i
    have HM1 := LH (M0.out.below B1.out B1.out.size)
    clear hb1
    go_wp2_with fail
    refine (HEM.out _ HM1.out).mono ?_
    rintro e w2 ⟨rfl, hb2⟩
    have B2 := LH (B1.out.trans (hb2.mono B1.out.size))
    clear hb2
    go_wp2_with fail
    go_ret
    exact ⟨ret_bool HVX.out.symm, B2.out⟩
   ·
    have hd1 : ¬ (p.main.deep : Int) ≤ 24 := by omega
    have HVX := LH (HV.out.trans (by rw [decide_eq_false hdm, Bool.false_and]))
    clear hdm
    go_wp2_with fail
    refine (HDM.out _ HMA.out).mono ?_
    rintro e w1 ⟨rfl, hb1⟩
    have B1 := LH (hbl.trans (hb1.mono hsz))
    clear hb1
    go_wp2_with fail
    go_ret
    exact ⟨ret_bool HVX.out.symm, B1.out⟩
end Go.Proofs.YtjjikciggbnjmaaGreat
