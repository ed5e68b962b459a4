/- Several texts of this claim in one: PatTidy NodeP App AppS. Conditions: none but bounds on sizes. -/
import Derived.Test.YtgbcdfeflgnogaaGreatMg2
import Derived.Test.YtgbcdfeflgnogaaGreatMg0
import Derived.Deep.AppendLies
/- Patterns that are tidy. Conditions: none. -/
namespace Go.Proofs.YtgbcdfeflgnogaaGreat
open Go.RowKit
set_option linter.unusedVariables false
set_option linter.unusedSimpArgs false
set_option maxHeartbeats 1000000

/-- is one pattern tidy by itself, with so many kids? -/
def pat1 (op n : Int) (s t : ByteArray) (k : Nat) : Bool :=
  t.toList.isEmpty && (if op = 17 then k == 0 && (n == 0 && s.toList.isEmpty)
  else if op = 18 then k == 0 && (n == 0 && nameB s)
  else if op = 19 then k == 0 && (inB n 0 1073741823 && s.toList.isEmpty)
  else if op = 20 then n == 0 && conB s else false)
mutual
def GNode.pat : GNode → Bool | .mk op n s t kids => pat1 op n s t kids.length && GNode.patL kids
def GNode.patL : List GNode → Bool | [] => true | t :: r => t.pat && GNode.patL r
end
theorem GNode.pat_eq (t : GNode) : t.pat = (pat1 t.op t.n t.s t.t t.kids.length && GNode.patL t.kids) := by
  cases t; simp only [GNode.pat, GNode.op, GNode.n, GNode.s, GNode.t, GNode.kids]
theorem GNode.patL_all : ∀ l : List GNode, GNode.patL l = l.all GNode.pat
  | [] => rfl
  | t :: r => by simp only [GNode.patL, List.all_cons, GNode.patL_all r]
theorem all_not_any {α : Type} (p : α → Bool) : ∀ l : List α, (!l.any fun x => !p x) = l.all p
  | [] => rfl
  | x :: r => by simp only [List.any_cons, List.all_cons, Bool.not_or, Bool.not_not, all_not_any p r]

set_option maxRecDepth 20000 in
/-- are all of some nodes as a function tells? -/
theorem implAllNodes (K : Nat) (hK : ∀ (args : Array Value) (w : World), (callFunc K args).run Tryz.prog w = .ok (.enter K args) w) (caps : Array Value) (p : GNode → Bool) (l : List GNode) (A : Option Addr) (c : Nat) (w : World) (hs : Sl w (Lt w.heap.size) 5 A c (l.map GNode.toD))
    (H : ∀ x, x ∈ l → ∀ (A1 : Option Addr) (c1 : Nat) (w2 : World), Below w.heap.size w w2 → GNode.At w2 (Lt w2.heap.size) A1 c1 x →
      Calls Tryz.prog K (#[.agg #[.int .i64 x.op, .int .i64 x.n, .string x.s, .string x.t, .slice A1 x.kids.length c1]] ++ caps) w2 fun e w' => e = .returned (.bool (p x)) ∧ Below w2.heap.size w2 w') :
    Calls Tryz.prog 36 #[.slice A l.length c, .func (.func K) #[] caps] w fun e w' => e = .returned (.bool (l.all p)) ∧ Below w.heap.size w w' := by
  have HH := Lib.hid H
  have HS := Lib.hid hs
  obtain ⟨w0, e0⟩ : ∃ w0, w0 = w.alloc (.cells #[.func (.func K) #[] caps] 64) := ⟨_, rfl⟩
  have E0 := Lib.hid (show Below w.heap.size w w0 by rw [e0]; exact (Below.refl _ _).alloc (Nat.le_refl _) _)
  have R0 := Lib.hid (show Row w0 w.heap.size 64 #[.func (.func K) #[] caps] by rw [e0]; exact Row.new' _ _ _ rfl)
  have HC : ∀ x, x ∈ l → ∀ (A1 : Option Addr) (c1 : Nat) (w2 : World), Below w0.heap.size w0 w2 → GNode.At w2 (Lt w2.heap.size) A1 c1 x →
      Calls Tryz.prog 64 (#[.agg #[.int .i64 x.op, .int .i64 x.n, .string x.s, .string x.t, .slice A1 x.kids.length c1]] ++ #[.pointer (some ⟨w.heap.size, 0, none⟩)]) w2 fun e w' => e = .returned (.bool (!p x)) ∧ Below w2.heap.size w2 w' := by
    intro x hx A1 c1 w2 hbw hx2
    obtain ⟨w3, e3⟩ : ∃ w3, w3 = w2.alloc (.cells #[.int .i64 x.op, .int .i64 x.n, .string x.s, .string x.t, .slice A1 x.kids.length c1] 33) := ⟨_, rfl⟩
    have E3 := Lib.hid (show Below w2.heap.size w2 w3 by rw [e3]; exact (Below.refl _ _).alloc (Nat.le_refl _) _)
    have R2 := R0.out.below hbw R0.out.lt
    have R3 := Lib.hid (R2.below E3.out R2.lt)
    have hc3 := fun i => R3.out.cell i
    have HX := Lib.hid (HH.out x hx A1 c1 w3 ((E0.out.trans (hbw.mono E0.out.size)).trans (E3.out.mono (Nat.le_trans E0.out.size hbw.size))) (hx2.below E3.out E3.out.size))
    rw [e3] at hc3
    have EQ := Lib.hid e3
    clear hx2 hbw e3 R2 e0 hs H
    go_enter Tryz.func64, Tryz.ntmps64
    go_wp2_with fail
    rw [← EQ.out]
    refine HX.out.mono ?_
    rintro e w4 ⟨rfl, hb4⟩
    go_wp2_with fail
    go_ret
    exact ⟨rfl, E3.out.trans (hb4.mono E3.out.size)⟩
  have HC2 := Lib.hid HC
  have HA := Lib.hid (all_not_any p l)
  have EQ := Lib.hid e0
  clear HC e0 hs H
  go_enter Tryz.func36, Tryz.ntmps36
  go_wp2_with fail
  rw [← EQ.out]
  refine (containsFuncNode 64 (enters Tryz.func64 (by kernel_rfl) (by kernel_rfl)) #[.pointer (some ⟨w.heap.size, 0, none⟩)] (fun x => !p x) l A c w0 (HS.out.below E0.out E0.out.size) (fun x hx A2 c2 w2 hb2 hx2 => HC2.out x hx A2 c2 w2 hb2 hx2)).mono ?_
  rintro e w1 ⟨rfl, hb1⟩
  go_wp2_with fail
  go_ret
  exact ⟨ret_bool HA.out, E0.out.trans (hb1.mono E0.out.size)⟩

set_option maxRecDepth 20000 in
theorem implPatTidy (k : Nat) : ∀ (t : GNode) (A1 : Option Addr) (c1 : Nat) (w : World), t.bulk < k → GNode.At w (Lt w.heap.size) A1 c1 t →
    Calls Tryz.prog 76 #[.agg #[.int .i64 t.op, .int .i64 t.n, .string t.s, .string t.t, .slice A1 t.kids.length c1]] w fun e w' => e = .returned (.bool t.pat) ∧ Below w.heap.size w w' := by
  induction k with
  | zero => intro t A1 c1 w h; omega
  | succ k ih =>
    intro t A1 c1 w hk0 ht
    obtain ⟨h0, h1, h2, h3, hs⟩ := id ht
    have hsz2 : t.s.size ≤ 9223372036854775807 := by unfold maxLen at h2; omega
    have hlen : t.kids.length ≤ 9223372036854775807 := by simpa using hs.len
    have hte := Lib.hid t.pat_eq
    have hbe := t.bulk_eq
    obtain ⟨w0, e0⟩ : ∃ w0, w0 = w.alloc (.cells #[.int .i64 t.op, .int .i64 t.n, .string t.s, .string t.t, .slice A1 t.kids.length c1] 33) := ⟨_, rfl⟩
    have E := Lib.hid (show Below w.heap.size w w0 by rw [e0]; exact (Below.refl _ _).alloc (Nat.le_refl _) _)
    have R := Lib.hid (show Row w0 w.heap.size 33 #[.int .i64 t.op, .int .i64 t.n, .string t.s, .string t.t, .slice A1 t.kids.length c1] by rw [e0]; exact Row.new' _ _ _ rfl)
    have EQ := Lib.hid e0
    have HC : ∀ x, x ∈ t.kids → ∀ (A1 : Option Addr) (c1 : Nat) (w2 : World), Below w0.heap.size w0 w2 → GNode.At w2 (Lt w2.heap.size) A1 c1 x →
        Calls Tryz.prog 76 (#[.agg #[.int .i64 x.op, .int .i64 x.n, .string x.s, .string x.t, .slice A1 x.kids.length c1]] ++ #[]) w2 fun e w' => e = .returned (.bool x.pat) ∧ Below w2.heap.size w2 w' := by
      intro x hx A1 c1 w2 _ hx2
      exact ih x A1 c1 w2 (by have := bulkL_mem GNode.bulk t.kids x hx; omega) hx2
    have HH := Lib.hid HC
    have HS := Lib.hid (hs.below E.out E.out.size)
    clear HC ih hbe e0 h0 h1 h2 h3 hs ht
    cases te : (t.t.toList.isEmpty)
    · skip
      have hv := Lib.hid (show pat1 t.op t.n t.s t.t t.kids.length = false from by
        unfold pat1; simp [te])
      go_enter Tryz.func76, Tryz.ntmps76
      go_wp2_with fail
      go_ret
      rw [← EQ.out]
      exact ⟨ret_bool (by rw [hte.out, hv.out]; rfl), E.out⟩
    · skip
      by_cases o17 : t.op = 17
      · skip
        cases a : (t.n == 0)
        · skip
          have hv := Lib.hid (show pat1 t.op t.n t.s t.t t.kids.length = false from by
            unfold pat1; simp [te, o17, a])
          have p17 : (t.op == 17) = true := by rw [o17]; rfl
          have r17 : (t.op != 17) = false := by rw [o17]; rfl
          have p18 : (t.op == 18) = false := by rw [o17]; rfl
          have r18 : (t.op != 18) = true := by rw [o17]; rfl
          have p19 : (t.op == 19) = false := by rw [o17]; rfl
          have r19 : (t.op != 19) = true := by rw [o17]; rfl
          have p20 : (t.op == 20) = false := by rw [o17]; rfl
          have r20 : (t.op != 20) = true := by rw [o17]; rfl
          clear o17
          go_enter Tryz.func76, Tryz.ntmps76
          go_wp2_with fail
          go_ret
          rw [← EQ.out]
          exact ⟨ret_bool (by rw [hte.out, hv.out]; rfl), E.out⟩
        · skip
          cases b : (t.s.toList.isEmpty)
          · skip
            have hv := Lib.hid (show pat1 t.op t.n t.s t.t t.kids.length = false from by
              unfold pat1; simp [te, o17, a, b])
            have p17 : (t.op == 17) = true := by rw [o17]; rfl
            have r17 : (t.op != 17) = false := by rw [o17]; rfl
            have p18 : (t.op == 18) = false := by rw [o17]; rfl
            have r18 : (t.op != 18) = true := by rw [o17]; rfl
            have p19 : (t.op == 19) = false := by rw [o17]; rfl
            have r19 : (t.op != 19) = true := by rw [o17]; rfl
            have p20 : (t.op == 20) = false := by rw [o17]; rfl
            have r20 : (t.op != 20) = true := by rw [o17]; rfl
            clear o17
            go_enter Tryz.func76, Tryz.ntmps76
            go_wp2_with fail
            go_ret
            rw [← EQ.out]
            exact ⟨ret_bool (by rw [hte.out, hv.out]; rfl), E.out⟩
          · skip
            by_cases hk : t.kids.length = 0
            · skip
              have hv := Lib.hid (show pat1 t.op t.n t.s t.t t.kids.length = true from by
                unfold pat1; simp [te, o17, a, b, hk])
              have hkn := Lib.hid (show GNode.patL t.kids = true from by rw [List.eq_nil_of_length_eq_zero hk]; rfl)
              have p17 : (t.op == 17) = true := by rw [o17]; rfl
              have r17 : (t.op != 17) = false := by rw [o17]; rfl
              have p18 : (t.op == 18) = false := by rw [o17]; rfl
              have r18 : (t.op != 18) = true := by rw [o17]; rfl
              have p19 : (t.op == 19) = false := by rw [o17]; rfl
              have r19 : (t.op != 19) = true := by rw [o17]; rfl
              have p20 : (t.op == 20) = false := by rw [o17]; rfl
              have r20 : (t.op != 20) = true := by rw [o17]; rfl
              clear o17
              have hk1 : (t.kids.length == 0) = true := by simp [hk]
              have hk2 : ((t.kids.length : Int) == 0) = true := by rw [beq_iff_eq]; omega
              have hk3 : ¬ (0 : Int) < (t.kids.length : Int) := by omega
              have hk4 : decide (0 < t.kids.length) = false := by simp [hk]
              have Hhk := Lib.hid hk
              clear hk
              go_enter Tryz.func76, Tryz.ntmps76
              go_wp2_with fail
              go_ret
              rw [← EQ.out]
              exact ⟨ret_bool (by rw [hte.out, hv.out, hkn.out]; rfl), E.out⟩
            · skip
              have hv := Lib.hid (show pat1 t.op t.n t.s t.t t.kids.length = false from by
                unfold pat1; simp [te, o17, a, b, hk])
              have p17 : (t.op == 17) = true := by rw [o17]; rfl
              have r17 : (t.op != 17) = false := by rw [o17]; rfl
              have p18 : (t.op == 18) = false := by rw [o17]; rfl
              have r18 : (t.op != 18) = true := by rw [o17]; rfl
              have p19 : (t.op == 19) = false := by rw [o17]; rfl
              have r19 : (t.op != 19) = true := by rw [o17]; rfl
              have p20 : (t.op == 20) = false := by rw [o17]; rfl
              have r20 : (t.op != 20) = true := by rw [o17]; rfl
              clear o17
              have hk1 : (t.kids.length == 0) = false := by simp [hk]
              have hk2 : ((t.kids.length : Int) == 0) = false := by rw [beq_eq_false_iff_ne]; omega
              have hk3 : (0 : Int) < (t.kids.length : Int) := by omega
              have hk4 : decide (0 < t.kids.length) = true := decide_eq_true (by omega)
              have Hhk := Lib.hid hk
              clear hk
              go_enter Tryz.func76, Tryz.ntmps76
              go_wp2_with fail
              go_ret
              rw [← EQ.out]
              exact ⟨ret_bool (by rw [hte.out, hv.out]; rfl), E.out⟩
      · skip
        by_cases o18 : t.op = 18
        · skip
          cases a : (t.n == 0)
          · skip
            have hv := Lib.hid (show pat1 t.op t.n t.s t.t t.kids.length = false from by
              unfold pat1; simp [te, o17, o18, a])
            have p17 : (t.op == 17) = false := by rw [o18]; rfl
            have r17 : (t.op != 17) = true := by rw [o18]; rfl
            have p18 : (t.op == 18) = true := by rw [o18]; rfl
            have r18 : (t.op != 18) = false := by rw [o18]; rfl
            have p19 : (t.op == 19) = false := by rw [o18]; rfl
            have r19 : (t.op != 19) = true := by rw [o18]; rfl
            have p20 : (t.op == 20) = false := by rw [o18]; rfl
            have r20 : (t.op != 20) = true := by rw [o18]; rfl
            clear o17
            clear o18
            go_enter Tryz.func76, Tryz.ntmps76
            go_wp2_with fail
            go_ret
            rw [← EQ.out]
            exact ⟨ret_bool (by rw [hte.out, hv.out]; rfl), E.out⟩
          · skip
            cases nb : (nameB t.s)
            · skip
              have hv := Lib.hid (show pat1 t.op t.n t.s t.t t.kids.length = false from by
                unfold pat1; simp [te, o17, o18, a, nb])
              have p17 : (t.op == 17) = false := by rw [o18]; rfl
              have r17 : (t.op != 17) = true := by rw [o18]; rfl
              have p18 : (t.op == 18) = true := by rw [o18]; rfl
              have r18 : (t.op != 18) = false := by rw [o18]; rfl
              have p19 : (t.op == 19) = false := by rw [o18]; rfl
              have r19 : (t.op != 19) = true := by rw [o18]; rfl
              have p20 : (t.op == 20) = false := by rw [o18]; rfl
              have r20 : (t.op != 20) = true := by rw [o18]; rfl
              clear o17
              clear o18
              have HNM := Lib.hid (fun (wx : World) => implNameOk t.s wx hsz2)
              rw [nb] at HNM
              clear nb
              go_enter Tryz.func76, Tryz.ntmps76
              go_wp2_with (first | (go_at_call 55; refine (HNM.out _).mono ?_; rintro e w9 ⟨rfl, hb9⟩; have B9 := Lib.hid hb9; have R9 := Lib.hid (R.out.below (show Below w0.heap.size w0 w9 from by rw [EQ.out]; exact hb9) R.out.lt); have hc9 := fun i => R9.out.cell i; clear hb9))
              go_ret
              exact ⟨ret_bool (by rw [hte.out, hv.out]; rfl), E.out.trans ((show Below w0.heap.size w0 w9 from by rw [EQ.out]; exact B9.out).mono E.out.size)⟩
            · skip
              by_cases hk : t.kids.length = 0
              · skip
                have hv := Lib.hid (show pat1 t.op t.n t.s t.t t.kids.length = true from by
                  unfold pat1; simp [te, o17, o18, a, nb, hk])
                have hkn := Lib.hid (show GNode.patL t.kids = true from by rw [List.eq_nil_of_length_eq_zero hk]; rfl)
                have p17 : (t.op == 17) = false := by rw [o18]; rfl
                have r17 : (t.op != 17) = true := by rw [o18]; rfl
                have p18 : (t.op == 18) = true := by rw [o18]; rfl
                have r18 : (t.op != 18) = false := by rw [o18]; rfl
                have p19 : (t.op == 19) = false := by rw [o18]; rfl
                have r19 : (t.op != 19) = true := by rw [o18]; rfl
                have p20 : (t.op == 20) = false := by rw [o18]; rfl
                have r20 : (t.op != 20) = true := by rw [o18]; rfl
                clear o17
                clear o18
                have hk1 : (t.kids.length == 0) = true := by simp [hk]
                have hk2 : ((t.kids.length : Int) == 0) = true := by rw [beq_iff_eq]; omega
                have hk3 : ¬ (0 : Int) < (t.kids.length : Int) := by omega
                have hk4 : decide (0 < t.kids.length) = false := by simp [hk]
                have Hhk := Lib.hid hk
                clear hk
                have HNM := Lib.hid (fun (wx : World) => implNameOk t.s wx hsz2)
                rw [nb] at HNM
                clear nb
                go_enter Tryz.func76, Tryz.ntmps76
                go_wp2_with (first | (go_at_call 55; refine (HNM.out _).mono ?_; rintro e w9 ⟨rfl, hb9⟩; have B9 := Lib.hid hb9; have R9 := Lib.hid (R.out.below (show Below w0.heap.size w0 w9 from by rw [EQ.out]; exact hb9) R.out.lt); have hc9 := fun i => R9.out.cell i; clear hb9))
                go_ret
                exact ⟨ret_bool (by rw [hte.out, hv.out, hkn.out]; rfl), E.out.trans ((show Below w0.heap.size w0 w9 from by rw [EQ.out]; exact B9.out).mono E.out.size)⟩
              · skip
                have hv := Lib.hid (show pat1 t.op t.n t.s t.t t.kids.length = false from by
                  unfold pat1; simp [te, o17, o18, a, nb, hk])
                have p17 : (t.op == 17) = false := by rw [o18]; rfl
                have r17 : (t.op != 17) = true := by rw [o18]; rfl
                have p18 : (t.op == 18) = true := by rw [o18]; rfl
                have r18 : (t.op != 18) = false := by rw [o18]; rfl
                have p19 : (t.op == 19) = false := by rw [o18]; rfl
                have r19 : (t.op != 19) = true := by rw [o18]; rfl
                have p20 : (t.op == 20) = false := by rw [o18]; rfl
                have r20 : (t.op != 20) = true := by rw [o18]; rfl
                clear o17
                clear o18
                have hk1 : (t.kids.length == 0) = false := by simp [hk]
                have hk2 : ((t.kids.length : Int) == 0) = false := by rw [beq_eq_false_iff_ne]; omega
                have hk3 : (0 : Int) < (t.kids.length : Int) := by omega
                have hk4 : decide (0 < t.kids.length) = true := decide_eq_true (by omega)
                have Hhk := Lib.hid hk
                clear hk
                have HNM := Lib.hid (fun (wx : World) => implNameOk t.s wx hsz2)
                rw [nb] at HNM
                clear nb
                go_enter Tryz.func76, Tryz.ntmps76
                go_wp2_with (first | (go_at_call 55; refine (HNM.out _).mono ?_; rintro e w9 ⟨rfl, hb9⟩; have B9 := Lib.hid hb9; have R9 := Lib.hid (R.out.below (show Below w0.heap.size w0 w9 from by rw [EQ.out]; exact hb9) R.out.lt); have hc9 := fun i => R9.out.cell i; clear hb9))
                go_ret
                exact ⟨ret_bool (by rw [hte.out, hv.out]; rfl), E.out.trans ((show Below w0.heap.size w0 w9 from by rw [EQ.out]; exact B9.out).mono E.out.size)⟩
        · skip
          by_cases o19 : t.op = 19
          · skip
            cases v : (inB t.n 0 1073741823)
            · skip
              have hv := Lib.hid (show pat1 t.op t.n t.s t.t t.kids.length = false from by
                unfold pat1; simp [te, o17, o18, o19, v])
              have p17 : (t.op == 17) = false := by rw [o19]; rfl
              have r17 : (t.op != 17) = true := by rw [o19]; rfl
              have p18 : (t.op == 18) = false := by rw [o19]; rfl
              have r18 : (t.op != 18) = true := by rw [o19]; rfl
              have p19 : (t.op == 19) = true := by rw [o19]; rfl
              have r19 : (t.op != 19) = false := by rw [o19]; rfl
              have p20 : (t.op == 20) = false := by rw [o19]; rfl
              have r20 : (t.op != 20) = true := by rw [o19]; rfl
              clear o17
              clear o18
              clear o19
              have HIN := Lib.hid (fun (wx : World) => implWithin t.n 0 1073741823 wx)
              rw [v] at HIN
              clear v
              go_enter Tryz.func76, Tryz.ntmps76
              go_wp2_with (first | (go_at_call 54; refine (HIN.out _).mono ?_; rintro e w9 ⟨rfl, rfl⟩))
              go_ret
              rw [← EQ.out]
              exact ⟨ret_bool (by rw [hte.out, hv.out]; rfl), E.out⟩
            · skip
              cases b : (t.s.toList.isEmpty)
              · skip
                have hv := Lib.hid (show pat1 t.op t.n t.s t.t t.kids.length = false from by
                  unfold pat1; simp [te, o17, o18, o19, v, b])
                have p17 : (t.op == 17) = false := by rw [o19]; rfl
                have r17 : (t.op != 17) = true := by rw [o19]; rfl
                have p18 : (t.op == 18) = false := by rw [o19]; rfl
                have r18 : (t.op != 18) = true := by rw [o19]; rfl
                have p19 : (t.op == 19) = true := by rw [o19]; rfl
                have r19 : (t.op != 19) = false := by rw [o19]; rfl
                have p20 : (t.op == 20) = false := by rw [o19]; rfl
                have r20 : (t.op != 20) = true := by rw [o19]; rfl
                clear o17
                clear o18
                clear o19
                have HIN := Lib.hid (fun (wx : World) => implWithin t.n 0 1073741823 wx)
                rw [v] at HIN
                clear v
                go_enter Tryz.func76, Tryz.ntmps76
                go_wp2_with (first | (go_at_call 54; refine (HIN.out _).mono ?_; rintro e w9 ⟨rfl, rfl⟩))
                go_ret
                rw [← EQ.out]
                exact ⟨ret_bool (by rw [hte.out, hv.out]; rfl), E.out⟩
              · skip
                by_cases hk : t.kids.length = 0
                · skip
                  have hv := Lib.hid (show pat1 t.op t.n t.s t.t t.kids.length = true from by
                    unfold pat1; simp [te, o17, o18, o19, v, b, hk])
                  have hkn := Lib.hid (show GNode.patL t.kids = true from by rw [List.eq_nil_of_length_eq_zero hk]; rfl)
                  have p17 : (t.op == 17) = false := by rw [o19]; rfl
                  have r17 : (t.op != 17) = true := by rw [o19]; rfl
                  have p18 : (t.op == 18) = false := by rw [o19]; rfl
                  have r18 : (t.op != 18) = true := by rw [o19]; rfl
                  have p19 : (t.op == 19) = true := by rw [o19]; rfl
                  have r19 : (t.op != 19) = false := by rw [o19]; rfl
                  have p20 : (t.op == 20) = false := by rw [o19]; rfl
                  have r20 : (t.op != 20) = true := by rw [o19]; rfl
                  clear o17
                  clear o18
                  clear o19
                  have hk1 : (t.kids.length == 0) = true := by simp [hk]
                  have hk2 : ((t.kids.length : Int) == 0) = true := by rw [beq_iff_eq]; omega
                  have hk3 : ¬ (0 : Int) < (t.kids.length : Int) := by omega
                  have hk4 : decide (0 < t.kids.length) = false := by simp [hk]
                  have Hhk := Lib.hid hk
                  clear hk
                  have HIN := Lib.hid (fun (wx : World) => implWithin t.n 0 1073741823 wx)
                  rw [v] at HIN
                  clear v
                  go_enter Tryz.func76, Tryz.ntmps76
                  go_wp2_with (first | (go_at_call 54; refine (HIN.out _).mono ?_; rintro e w9 ⟨rfl, rfl⟩))
                  go_ret
                  rw [← EQ.out]
                  exact ⟨ret_bool (by rw [hte.out, hv.out, hkn.out]; rfl), E.out⟩
                · skip
                  have hv := Lib.hid (show pat1 t.op t.n t.s t.t t.kids.length = false from by
                    unfold pat1; simp [te, o17, o18, o19, v, b, hk])
                  have p17 : (t.op == 17) = false := by rw [o19]; rfl
                  have r17 : (t.op != 17) = true := by rw [o19]; rfl
                  have p18 : (t.op == 18) = false := by rw [o19]; rfl
                  have r18 : (t.op != 18) = true := by rw [o19]; rfl
                  have p19 : (t.op == 19) = true := by rw [o19]; rfl
                  have r19 : (t.op != 19) = false := by rw [o19]; rfl
                  have p20 : (t.op == 20) = false := by rw [o19]; rfl
                  have r20 : (t.op != 20) = true := by rw [o19]; rfl
                  clear o17
                  clear o18
                  clear o19
                  have hk1 : (t.kids.length == 0) = false := by simp [hk]
                  have hk2 : ((t.kids.length : Int) == 0) = false := by rw [beq_eq_false_iff_ne]; omega
                  have hk3 : (0 : Int) < (t.kids.length : Int) := by omega
                  have hk4 : decide (0 < t.kids.length) = true := decide_eq_true (by omega)
                  have Hhk := Lib.hid hk
                  clear hk
                  have HIN := Lib.hid (fun (wx : World) => implWithin t.n 0 1073741823 wx)
                  rw [v] at HIN
                  clear v
                  go_enter Tryz.func76, Tryz.ntmps76
                  go_wp2_with (first | (go_at_call 54; refine (HIN.out _).mono ?_; rintro e w9 ⟨rfl, rfl⟩))
                  go_ret
                  rw [← EQ.out]
                  exact ⟨ret_bool (by rw [hte.out, hv.out]; rfl), E.out⟩
          · skip
            by_cases o20 : t.op = 20
            · skip
              cases a : (t.n == 0)
              · skip
                have hv := Lib.hid (show pat1 t.op t.n t.s t.t t.kids.length = false from by
                  unfold pat1; simp [te, o17, o18, o19, o20, a])
                have p17 : (t.op == 17) = false := by rw [o20]; rfl
                have r17 : (t.op != 17) = true := by rw [o20]; rfl
                have p18 : (t.op == 18) = false := by rw [o20]; rfl
                have r18 : (t.op != 18) = true := by rw [o20]; rfl
                have p19 : (t.op == 19) = false := by rw [o20]; rfl
                have r19 : (t.op != 19) = true := by rw [o20]; rfl
                have p20 : (t.op == 20) = true := by rw [o20]; rfl
                have r20 : (t.op != 20) = false := by rw [o20]; rfl
                clear o17
                clear o18
                clear o19
                clear o20
                go_enter Tryz.func76, Tryz.ntmps76
                go_wp2_with fail
                go_ret
                rw [← EQ.out]
                exact ⟨ret_bool (by rw [hte.out, hv.out]; rfl), E.out⟩
              · skip
                cases cn : (conB t.s)
                · skip
                  have hv := Lib.hid (show pat1 t.op t.n t.s t.t t.kids.length = false from by
                    unfold pat1; simp [te, o17, o18, o19, o20, a, cn])
                  have p17 : (t.op == 17) = false := by rw [o20]; rfl
                  have r17 : (t.op != 17) = true := by rw [o20]; rfl
                  have p18 : (t.op == 18) = false := by rw [o20]; rfl
                  have r18 : (t.op != 18) = true := by rw [o20]; rfl
                  have p19 : (t.op == 19) = false := by rw [o20]; rfl
                  have r19 : (t.op != 19) = true := by rw [o20]; rfl
                  have p20 : (t.op == 20) = true := by rw [o20]; rfl
                  have r20 : (t.op != 20) = false := by rw [o20]; rfl
                  clear o17
                  clear o18
                  clear o19
                  clear o20
                  have HCN := Lib.hid (fun (wx : World) => implConOk t.s wx hsz2)
                  rw [cn] at HCN
                  clear cn
                  go_enter Tryz.func76, Tryz.ntmps76
                  go_wp2_with (first | (go_at_call 56; refine (HCN.out _).mono ?_; rintro e w9 ⟨rfl, rfl⟩))
                  go_ret
                  rw [← EQ.out]
                  exact ⟨ret_bool (by rw [hte.out, hv.out]; rfl), E.out⟩
                · skip
                  have hv := Lib.hid (show pat1 t.op t.n t.s t.t t.kids.length = true from by
                    unfold pat1; simp [te, o17, o18, o19, o20, a, cn])
                  have p17 : (t.op == 17) = false := by rw [o20]; rfl
                  have r17 : (t.op != 17) = true := by rw [o20]; rfl
                  have p18 : (t.op == 18) = false := by rw [o20]; rfl
                  have r18 : (t.op != 18) = true := by rw [o20]; rfl
                  have p19 : (t.op == 19) = false := by rw [o20]; rfl
                  have r19 : (t.op != 19) = true := by rw [o20]; rfl
                  have p20 : (t.op == 20) = true := by rw [o20]; rfl
                  have r20 : (t.op != 20) = false := by rw [o20]; rfl
                  clear o17
                  clear o18
                  clear o19
                  clear o20
                  have HCN := Lib.hid (fun (wx : World) => implConOk t.s wx hsz2)
                  rw [cn] at HCN
                  clear cn
                  go_enter Tryz.func76, Tryz.ntmps76
                  go_wp2_with (first | (go_at_call 56; refine (HCN.out _).mono ?_; rintro e w9 ⟨rfl, rfl⟩))
                  rw [← EQ.out]
                  refine (implAllNodes 76 (enters Tryz.func76 (by kernel_rfl) (by kernel_rfl)) #[] GNode.pat t.kids A1 c1 w0 HS.out (fun x hx A2 c2 w2 hb2 hx2 => HH.out x hx A2 c2 w2 hb2 hx2)).mono ?_
                  rintro e w1 ⟨rfl, hb1⟩
                  go_wp2_with fail
                  go_ret
                  exact ⟨ret_bool (by rw [hte.out, hv.out, GNode.patL_all]; rfl), E.out.trans (hb1.mono E.out.size)⟩
            · skip
              have hv := Lib.hid (show pat1 t.op t.n t.s t.t t.kids.length = false from by
                unfold pat1; simp [te, o17, o18, o19, o20])
              have p17 : (t.op == 17) = false := by simpa using o17
              have r17 : (t.op != 17) = true := by simp [bne, p17]
              have p18 : (t.op == 18) = false := by simpa using o18
              have r18 : (t.op != 18) = true := by simp [bne, p18]
              have p19 : (t.op == 19) = false := by simpa using o19
              have r19 : (t.op != 19) = true := by simp [bne, p19]
              have p20 : (t.op == 20) = false := by simpa using o20
              have r20 : (t.op != 20) = true := by simp [bne, p20]
              clear o17
              clear o18
              clear o19
              clear o20
              go_enter Tryz.func76, Tryz.ntmps76
              go_wp2_with fail
              go_ret
              rw [← EQ.out]
              exact ⟨ret_bool (by rw [hte.out, hv.out]; rfl), E.out⟩

set_option maxRecDepth 20000 in
theorem specPatTidy (k : Nat) : ∀ (t : GNode) (A1 : Option Addr) (c1 : Nat) (w : World), t.bulk < k → GNode.At w (Lt w.heap.size) A1 c1 t →
    Calls Tryz.prog 68 #[.agg #[.int .i64 t.op, .int .i64 t.n, .string t.s, .string t.t, .slice A1 t.kids.length c1]] w fun e w' => e = .returned (.bool t.pat) ∧ Below w.heap.size w w' := by
  induction k with
  | zero => intro t A1 c1 w h; omega
  | succ k ih =>
    intro t A1 c1 w hk0 ht
    obtain ⟨h0, h1, h2, h3, hs⟩ := id ht
    have hsz2 : t.s.size ≤ 9223372036854775807 := by unfold maxLen at h2; omega
    have hlen : t.kids.length ≤ 9223372036854775807 := by simpa using hs.len
    have hte := Lib.hid t.pat_eq
    have hbe := t.bulk_eq
    go_enter Tryz.func68, Tryz.ntmps68
    go_wp2_with fail
    go_loopw [3] (fun i wr => ∃ j : Nat, j ≤ t.kids.length ∧ i = .int .i64 j ∧ Hid ((t.kids.take j).all GNode.pat = true) ∧ Hid (Below w.heap.size w wr) ∧ Hid (Row wr w.heap.size 33 #[.int .i64 t.op, .int .i64 t.n, .string t.s, .string t.t, .slice A1 t.kids.length c1])) (fun i _ => t.kids.length - (intOf i).toNat)
    case atStart => exact ⟨0, by omega, by go_num, Lib.hid (by simp), Lib.hid ((Below.refl _ _).alloc (Nat.le_refl _) _), Lib.hid (Row.new _ _ _)⟩
    case round =>
      obtain ⟨j, hj, rfl, Hall, hbl, R⟩ := hrel
      have hsz := hbl.out.size
      have hc := fun i => R.out.cell i
      by_cases hlt : j < t.kids.length
      · have htr := GNode.elem (hs.below hbl.out (Nat.le_refl _)) j hlt
        obtain ⟨b, off, A2, c2, rfl, hSb, g0, g1, g2, g3, g4, hat⟩ := htr
        have hmem : t.kids[j] ∈ t.kids := List.getElem_mem hlt
        have hxb : (t.kids[j]).bulk < k := by have := bulkL_mem GNode.bulk t.kids _ hmem; omega
        clear hbe
        go_wp2_with fail
        refine (ih _ A2 c2 _ hxb (hat.below (Below.refl _ _) hsz)).mono ?_
        rintro e w1 ⟨rfl, hb1⟩
        cases he : (t.kids[j]).pat
        · have hn := Lib.hid (show t.kids.all GNode.pat = false from by rw [← Bool.not_eq_true]; intro h; have := List.all_eq_true.1 h _ hmem; rw [he] at this; cases this)
          clear he
          go_wp2_with fail
          go_ret
          exact ⟨ret_bool (by rw [hte.out, GNode.patL_all, hn.out]; simp), hbl.out.trans (hb1.mono hsz)⟩
        · have he2 := Lib.hid he
          clear he
          go_wp2_with fail
          go_roundw
          case rel => exact ⟨j + 1, by omega, by go_num, Lib.hid (by rw [take_snoc' _ j hlt, List.all_append, Hall.out]; simp [he2.out]), Lib.hid (hbl.out.trans (hb1.mono hsz)), Lib.hid (R.out.below hb1 R.out.lt)⟩
          case measure => simp [intOf]; omega
      · have hjl : j = t.kids.length := by omega
        have hko := Lib.hid (show GNode.patL t.kids = true from by rw [GNode.patL_all]; have := Hall.out; rwa [hjl, List.take_length] at this)
        clear hjl ih hbe Hall h0 h1 h2 h3 hs ht
        cases te : (t.t.toList.isEmpty)
        · skip
          have hv := Lib.hid (show pat1 t.op t.n t.s t.t t.kids.length = false from by
            unfold pat1; simp [te])
          go_wp2_with fail
          go_ret
          exact ⟨ret_bool (by rw [hte.out, hv.out, hko.out]; rfl), hbl.out⟩
        · skip
          by_cases o17 : t.op = 17
          · skip
            by_cases hk : t.kids.length = 0
            · skip
              cases a : (t.n == 0)
              · skip
                have hv := Lib.hid (show pat1 t.op t.n t.s t.t t.kids.length = false from by
                  unfold pat1; simp [te, o17, hk, a])
                have p17 : (t.op == 17) = true := by rw [o17]; rfl
                have r17 : (t.op != 17) = false := by rw [o17]; rfl
                have p18 : (t.op == 18) = false := by rw [o17]; rfl
                have r18 : (t.op != 18) = true := by rw [o17]; rfl
                have p19 : (t.op == 19) = false := by rw [o17]; rfl
                have r19 : (t.op != 19) = true := by rw [o17]; rfl
                have p20 : (t.op == 20) = false := by rw [o17]; rfl
                have r20 : (t.op != 20) = true := by rw [o17]; rfl
                clear o17
                have hk1 : (t.kids.length == 0) = true := by simp [hk]
                have hk2 : ((t.kids.length : Int) == 0) = true := by rw [beq_iff_eq]; omega
                have hk3 : ¬ (0 : Int) < (t.kids.length : Int) := by omega
                have hk4 : decide (0 < t.kids.length) = false := by simp [hk]
                have Hhk := Lib.hid hk
                clear hk
                have an : (t.n != 0) = true := by simp only [bne, a]; rfl
                go_wp2_with fail
                go_ret
                exact ⟨ret_bool (by rw [hte.out, hv.out, hko.out]; rfl), hbl.out⟩
              · skip
                cases b : (t.s.toList.isEmpty)
                · skip
                  have hv := Lib.hid (show pat1 t.op t.n t.s t.t t.kids.length = false from by
                    unfold pat1; simp [te, o17, hk, a, b])
                  have p17 : (t.op == 17) = true := by rw [o17]; rfl
                  have r17 : (t.op != 17) = false := by rw [o17]; rfl
                  have p18 : (t.op == 18) = false := by rw [o17]; rfl
                  have r18 : (t.op != 18) = true := by rw [o17]; rfl
                  have p19 : (t.op == 19) = false := by rw [o17]; rfl
                  have r19 : (t.op != 19) = true := by rw [o17]; rfl
                  have p20 : (t.op == 20) = false := by rw [o17]; rfl
                  have r20 : (t.op != 20) = true := by rw [o17]; rfl
                  clear o17
                  have hk1 : (t.kids.length == 0) = true := by simp [hk]
                  have hk2 : ((t.kids.length : Int) == 0) = true := by rw [beq_iff_eq]; omega
                  have hk3 : ¬ (0 : Int) < (t.kids.length : Int) := by omega
                  have hk4 : decide (0 < t.kids.length) = false := by simp [hk]
                  have Hhk := Lib.hid hk
                  clear hk
                  have an : (t.n != 0) = false := by simp only [bne, a]; rfl
                  go_wp2_with fail
                  go_ret
                  exact ⟨ret_bool (by rw [hte.out, hv.out, hko.out]; rfl), hbl.out⟩
                · skip
                  have hv := Lib.hid (show pat1 t.op t.n t.s t.t t.kids.length = true from by
                    unfold pat1; simp [te, o17, hk, a, b])
                  have hkn := Lib.hid (show GNode.patL t.kids = true from by rw [List.eq_nil_of_length_eq_zero hk]; rfl)
                  have p17 : (t.op == 17) = true := by rw [o17]; rfl
                  have r17 : (t.op != 17) = false := by rw [o17]; rfl
                  have p18 : (t.op == 18) = false := by rw [o17]; rfl
                  have r18 : (t.op != 18) = true := by rw [o17]; rfl
                  have p19 : (t.op == 19) = false := by rw [o17]; rfl
                  have r19 : (t.op != 19) = true := by rw [o17]; rfl
                  have p20 : (t.op == 20) = false := by rw [o17]; rfl
                  have r20 : (t.op != 20) = true := by rw [o17]; rfl
                  clear o17
                  have hk1 : (t.kids.length == 0) = true := by simp [hk]
                  have hk2 : ((t.kids.length : Int) == 0) = true := by rw [beq_iff_eq]; omega
                  have hk3 : ¬ (0 : Int) < (t.kids.length : Int) := by omega
                  have hk4 : decide (0 < t.kids.length) = false := by simp [hk]
                  have Hhk := Lib.hid hk
                  clear hk
                  have an : (t.n != 0) = false := by simp only [bne, a]; rfl
                  go_wp2_with fail
                  go_ret
                  exact ⟨ret_bool (by rw [hte.out, hv.out, hko.out]; rfl), hbl.out⟩
            · skip
              have hv := Lib.hid (show pat1 t.op t.n t.s t.t t.kids.length = false from by
                unfold pat1; simp [te, o17, hk])
              have p17 : (t.op == 17) = true := by rw [o17]; rfl
              have r17 : (t.op != 17) = false := by rw [o17]; rfl
              have p18 : (t.op == 18) = false := by rw [o17]; rfl
              have r18 : (t.op != 18) = true := by rw [o17]; rfl
              have p19 : (t.op == 19) = false := by rw [o17]; rfl
              have r19 : (t.op != 19) = true := by rw [o17]; rfl
              have p20 : (t.op == 20) = false := by rw [o17]; rfl
              have r20 : (t.op != 20) = true := by rw [o17]; rfl
              clear o17
              have hk1 : (t.kids.length == 0) = false := by simp [hk]
              have hk2 : ((t.kids.length : Int) == 0) = false := by rw [beq_eq_false_iff_ne]; omega
              have hk3 : (0 : Int) < (t.kids.length : Int) := by omega
              have hk4 : decide (0 < t.kids.length) = true := decide_eq_true (by omega)
              have Hhk := Lib.hid hk
              clear hk
              go_wp2_with fail
              go_ret
              exact ⟨ret_bool (by rw [hte.out, hv.out, hko.out]; rfl), hbl.out⟩
          · skip
            by_cases o18 : t.op = 18
            · skip
              by_cases hk : t.kids.length = 0
              · skip
                cases a : (t.n == 0)
                · skip
                  have hv := Lib.hid (show pat1 t.op t.n t.s t.t t.kids.length = false from by
                    unfold pat1; simp [te, o17, o18, hk, a])
                  have p17 : (t.op == 17) = false := by rw [o18]; rfl
                  have r17 : (t.op != 17) = true := by rw [o18]; rfl
                  have p18 : (t.op == 18) = true := by rw [o18]; rfl
                  have r18 : (t.op != 18) = false := by rw [o18]; rfl
                  have p19 : (t.op == 19) = false := by rw [o18]; rfl
                  have r19 : (t.op != 19) = true := by rw [o18]; rfl
                  have p20 : (t.op == 20) = false := by rw [o18]; rfl
                  have r20 : (t.op != 20) = true := by rw [o18]; rfl
                  clear o17
                  clear o18
                  have hk1 : (t.kids.length == 0) = true := by simp [hk]
                  have hk2 : ((t.kids.length : Int) == 0) = true := by rw [beq_iff_eq]; omega
                  have hk3 : ¬ (0 : Int) < (t.kids.length : Int) := by omega
                  have hk4 : decide (0 < t.kids.length) = false := by simp [hk]
                  have Hhk := Lib.hid hk
                  clear hk
                  have an : (t.n != 0) = true := by simp only [bne, a]; rfl
                  go_wp2_with fail
                  go_ret
                  exact ⟨ret_bool (by rw [hte.out, hv.out, hko.out]; rfl), hbl.out⟩
                · skip
                  cases nb : (nameB t.s)
                  · skip
                    have hv := Lib.hid (show pat1 t.op t.n t.s t.t t.kids.length = false from by
                      unfold pat1; simp [te, o17, o18, hk, a, nb])
                    have p17 : (t.op == 17) = false := by rw [o18]; rfl
                    have r17 : (t.op != 17) = true := by rw [o18]; rfl
                    have p18 : (t.op == 18) = true := by rw [o18]; rfl
                    have r18 : (t.op != 18) = false := by rw [o18]; rfl
                    have p19 : (t.op == 19) = false := by rw [o18]; rfl
                    have r19 : (t.op != 19) = true := by rw [o18]; rfl
                    have p20 : (t.op == 20) = false := by rw [o18]; rfl
                    have r20 : (t.op != 20) = true := by rw [o18]; rfl
                    clear o17
                    clear o18
                    have hk1 : (t.kids.length == 0) = true := by simp [hk]
                    have hk2 : ((t.kids.length : Int) == 0) = true := by rw [beq_iff_eq]; omega
                    have hk3 : ¬ (0 : Int) < (t.kids.length : Int) := by omega
                    have hk4 : decide (0 < t.kids.length) = false := by simp [hk]
                    have Hhk := Lib.hid hk
                    clear hk
                    have an : (t.n != 0) = false := by simp only [bne, a]; rfl
                    have HNM := Lib.hid (fun (wx : World) => specName t.s wx hsz2)
                    rw [nb] at HNM
                    clear nb
                    go_wp2_with (first | (go_at_call 44; refine (HNM.out _).mono ?_; rintro e w9 ⟨rfl, hb9⟩; have B9 := Lib.hid hb9; have R9 := Lib.hid (R.out.below hb9 R.out.lt); have hc9 := fun i => R9.out.cell i; clear hb9))
                    go_ret
                    exact ⟨ret_bool (by rw [hte.out, hv.out, hko.out]; rfl), hbl.out.trans (B9.out.mono hsz)⟩
                  · skip
                    have hv := Lib.hid (show pat1 t.op t.n t.s t.t t.kids.length = true from by
                      unfold pat1; simp [te, o17, o18, hk, a, nb])
                    have hkn := Lib.hid (show GNode.patL t.kids = true from by rw [List.eq_nil_of_length_eq_zero hk]; rfl)
                    have p17 : (t.op == 17) = false := by rw [o18]; rfl
                    have r17 : (t.op != 17) = true := by rw [o18]; rfl
                    have p18 : (t.op == 18) = true := by rw [o18]; rfl
                    have r18 : (t.op != 18) = false := by rw [o18]; rfl
                    have p19 : (t.op == 19) = false := by rw [o18]; rfl
                    have r19 : (t.op != 19) = true := by rw [o18]; rfl
                    have p20 : (t.op == 20) = false := by rw [o18]; rfl
                    have r20 : (t.op != 20) = true := by rw [o18]; rfl
                    clear o17
                    clear o18
                    have hk1 : (t.kids.length == 0) = true := by simp [hk]
                    have hk2 : ((t.kids.length : Int) == 0) = true := by rw [beq_iff_eq]; omega
                    have hk3 : ¬ (0 : Int) < (t.kids.length : Int) := by omega
                    have hk4 : decide (0 < t.kids.length) = false := by simp [hk]
                    have Hhk := Lib.hid hk
                    clear hk
                    have an : (t.n != 0) = false := by simp only [bne, a]; rfl
                    have HNM := Lib.hid (fun (wx : World) => specName t.s wx hsz2)
                    rw [nb] at HNM
                    clear nb
                    go_wp2_with (first | (go_at_call 44; refine (HNM.out _).mono ?_; rintro e w9 ⟨rfl, hb9⟩; have B9 := Lib.hid hb9; have R9 := Lib.hid (R.out.below hb9 R.out.lt); have hc9 := fun i => R9.out.cell i; clear hb9))
                    go_ret
                    exact ⟨ret_bool (by rw [hte.out, hv.out, hko.out]; rfl), hbl.out.trans (B9.out.mono hsz)⟩
              · skip
                have hv := Lib.hid (show pat1 t.op t.n t.s t.t t.kids.length = false from by
                  unfold pat1; simp [te, o17, o18, hk])
                have p17 : (t.op == 17) = false := by rw [o18]; rfl
                have r17 : (t.op != 17) = true := by rw [o18]; rfl
                have p18 : (t.op == 18) = true := by rw [o18]; rfl
                have r18 : (t.op != 18) = false := by rw [o18]; rfl
                have p19 : (t.op == 19) = false := by rw [o18]; rfl
                have r19 : (t.op != 19) = true := by rw [o18]; rfl
                have p20 : (t.op == 20) = false := by rw [o18]; rfl
                have r20 : (t.op != 20) = true := by rw [o18]; rfl
                clear o17
                clear o18
                have hk1 : (t.kids.length == 0) = false := by simp [hk]
                have hk2 : ((t.kids.length : Int) == 0) = false := by rw [beq_eq_false_iff_ne]; omega
                have hk3 : (0 : Int) < (t.kids.length : Int) := by omega
                have hk4 : decide (0 < t.kids.length) = true := decide_eq_true (by omega)
                have Hhk := Lib.hid hk
                clear hk
                go_wp2_with fail
                go_ret
                exact ⟨ret_bool (by rw [hte.out, hv.out, hko.out]; rfl), hbl.out⟩
            · skip
              by_cases o19 : t.op = 19
              · skip
                by_cases hk : t.kids.length = 0
                · skip
                  cases b : (t.s.toList.isEmpty)
                  · skip
                    have hv := Lib.hid (show pat1 t.op t.n t.s t.t t.kids.length = false from by
                      unfold pat1; simp [te, o17, o18, o19, hk, b])
                    have p17 : (t.op == 17) = false := by rw [o19]; rfl
                    have r17 : (t.op != 17) = true := by rw [o19]; rfl
                    have p18 : (t.op == 18) = false := by rw [o19]; rfl
                    have r18 : (t.op != 18) = true := by rw [o19]; rfl
                    have p19 : (t.op == 19) = true := by rw [o19]; rfl
                    have r19 : (t.op != 19) = false := by rw [o19]; rfl
                    have p20 : (t.op == 20) = false := by rw [o19]; rfl
                    have r20 : (t.op != 20) = true := by rw [o19]; rfl
                    clear o17
                    clear o18
                    clear o19
                    have hk1 : (t.kids.length == 0) = true := by simp [hk]
                    have hk2 : ((t.kids.length : Int) == 0) = true := by rw [beq_iff_eq]; omega
                    have hk3 : ¬ (0 : Int) < (t.kids.length : Int) := by omega
                    have hk4 : decide (0 < t.kids.length) = false := by simp [hk]
                    have Hhk := Lib.hid hk
                    clear hk
                    go_wp2_with fail
                    go_ret
                    exact ⟨ret_bool (by rw [hte.out, hv.out, hko.out]; rfl), hbl.out⟩
                  · skip
                    cases v : (inB t.n 0 1073741823)
                    · skip
                      have hv := Lib.hid (show pat1 t.op t.n t.s t.t t.kids.length = false from by
                        unfold pat1; simp [te, o17, o18, o19, hk, b, v])
                      have p17 : (t.op == 17) = false := by rw [o19]; rfl
                      have r17 : (t.op != 17) = true := by rw [o19]; rfl
                      have p18 : (t.op == 18) = false := by rw [o19]; rfl
                      have r18 : (t.op != 18) = true := by rw [o19]; rfl
                      have p19 : (t.op == 19) = true := by rw [o19]; rfl
                      have r19 : (t.op != 19) = false := by rw [o19]; rfl
                      have p20 : (t.op == 20) = false := by rw [o19]; rfl
                      have r20 : (t.op != 20) = true := by rw [o19]; rfl
                      clear o17
                      clear o18
                      clear o19
                      have hk1 : (t.kids.length == 0) = true := by simp [hk]
                      have hk2 : ((t.kids.length : Int) == 0) = true := by rw [beq_iff_eq]; omega
                      have hk3 : ¬ (0 : Int) < (t.kids.length : Int) := by omega
                      have hk4 : decide (0 < t.kids.length) = false := by simp [hk]
                      have Hhk := Lib.hid hk
                      clear hk
                      have HIN := Lib.hid (fun (wx : World) => specIn t.n 0 1073741823 wx)
                      rw [v] at HIN
                      clear v
                      go_wp2_with (first | (go_at_call 22; refine (HIN.out _).mono ?_; rintro e w9 ⟨rfl, rfl⟩))
                      go_ret
                      exact ⟨ret_bool (by rw [hte.out, hv.out, hko.out]; rfl), hbl.out⟩
                    · skip
                      have hv := Lib.hid (show pat1 t.op t.n t.s t.t t.kids.length = true from by
                        unfold pat1; simp [te, o17, o18, o19, hk, b, v])
                      have hkn := Lib.hid (show GNode.patL t.kids = true from by rw [List.eq_nil_of_length_eq_zero hk]; rfl)
                      have p17 : (t.op == 17) = false := by rw [o19]; rfl
                      have r17 : (t.op != 17) = true := by rw [o19]; rfl
                      have p18 : (t.op == 18) = false := by rw [o19]; rfl
                      have r18 : (t.op != 18) = true := by rw [o19]; rfl
                      have p19 : (t.op == 19) = true := by rw [o19]; rfl
                      have r19 : (t.op != 19) = false := by rw [o19]; rfl
                      have p20 : (t.op == 20) = false := by rw [o19]; rfl
                      have r20 : (t.op != 20) = true := by rw [o19]; rfl
                      clear o17
                      clear o18
                      clear o19
                      have hk1 : (t.kids.length == 0) = true := by simp [hk]
                      have hk2 : ((t.kids.length : Int) == 0) = true := by rw [beq_iff_eq]; omega
                      have hk3 : ¬ (0 : Int) < (t.kids.length : Int) := by omega
                      have hk4 : decide (0 < t.kids.length) = false := by simp [hk]
                      have Hhk := Lib.hid hk
                      clear hk
                      have HIN := Lib.hid (fun (wx : World) => specIn t.n 0 1073741823 wx)
                      rw [v] at HIN
                      clear v
                      go_wp2_with (first | (go_at_call 22; refine (HIN.out _).mono ?_; rintro e w9 ⟨rfl, rfl⟩))
                      go_ret
                      exact ⟨ret_bool (by rw [hte.out, hv.out, hko.out]; rfl), hbl.out⟩
                · skip
                  have hv := Lib.hid (show pat1 t.op t.n t.s t.t t.kids.length = false from by
                    unfold pat1; simp [te, o17, o18, o19, hk])
                  have p17 : (t.op == 17) = false := by rw [o19]; rfl
                  have r17 : (t.op != 17) = true := by rw [o19]; rfl
                  have p18 : (t.op == 18) = false := by rw [o19]; rfl
                  have r18 : (t.op != 18) = true := by rw [o19]; rfl
                  have p19 : (t.op == 19) = true := by rw [o19]; rfl
                  have r19 : (t.op != 19) = false := by rw [o19]; rfl
                  have p20 : (t.op == 20) = false := by rw [o19]; rfl
                  have r20 : (t.op != 20) = true := by rw [o19]; rfl
                  clear o17
                  clear o18
                  clear o19
                  have hk1 : (t.kids.length == 0) = false := by simp [hk]
                  have hk2 : ((t.kids.length : Int) == 0) = false := by rw [beq_eq_false_iff_ne]; omega
                  have hk3 : (0 : Int) < (t.kids.length : Int) := by omega
                  have hk4 : decide (0 < t.kids.length) = true := decide_eq_true (by omega)
                  have Hhk := Lib.hid hk
                  clear hk
                  go_wp2_with fail
                  go_ret
                  exact ⟨ret_bool (by rw [hte.out, hv.out, hko.out]; rfl), hbl.out⟩
              · skip
                by_cases o20 : t.op = 20
                · skip
                  cases a : (t.n == 0)
                  · skip
                    have hv := Lib.hid (show pat1 t.op t.n t.s t.t t.kids.length = false from by
                      unfold pat1; simp [te, o17, o18, o19, o20, a])
                    have p17 : (t.op == 17) = false := by rw [o20]; rfl
                    have r17 : (t.op != 17) = true := by rw [o20]; rfl
                    have p18 : (t.op == 18) = false := by rw [o20]; rfl
                    have r18 : (t.op != 18) = true := by rw [o20]; rfl
                    have p19 : (t.op == 19) = false := by rw [o20]; rfl
                    have r19 : (t.op != 19) = true := by rw [o20]; rfl
                    have p20 : (t.op == 20) = true := by rw [o20]; rfl
                    have r20 : (t.op != 20) = false := by rw [o20]; rfl
                    clear o17
                    clear o18
                    clear o19
                    clear o20
                    have an : (t.n != 0) = true := by simp only [bne, a]; rfl
                    go_wp2_with fail
                    go_ret
                    exact ⟨ret_bool (by rw [hte.out, hv.out, hko.out]; rfl), hbl.out⟩
                  · skip
                    cases cn : (conB t.s)
                    · skip
                      have hv := Lib.hid (show pat1 t.op t.n t.s t.t t.kids.length = false from by
                        unfold pat1; simp [te, o17, o18, o19, o20, a, cn])
                      have p17 : (t.op == 17) = false := by rw [o20]; rfl
                      have r17 : (t.op != 17) = true := by rw [o20]; rfl
                      have p18 : (t.op == 18) = false := by rw [o20]; rfl
                      have r18 : (t.op != 18) = true := by rw [o20]; rfl
                      have p19 : (t.op == 19) = false := by rw [o20]; rfl
                      have r19 : (t.op != 19) = true := by rw [o20]; rfl
                      have p20 : (t.op == 20) = true := by rw [o20]; rfl
                      have r20 : (t.op != 20) = false := by rw [o20]; rfl
                      clear o17
                      clear o18
                      clear o19
                      clear o20
                      have an : (t.n != 0) = false := by simp only [bne, a]; rfl
                      have HCN := Lib.hid (fun (wx : World) => specCon t.s wx hsz2)
                      rw [cn] at HCN
                      clear cn
                      go_wp2_with (first | (go_at_call 21; refine (HCN.out _).mono ?_; rintro e w9 ⟨rfl, rfl⟩))
                      go_ret
                      exact ⟨ret_bool (by rw [hte.out, hv.out, hko.out]; rfl), hbl.out⟩
                    · skip
                      have hv := Lib.hid (show pat1 t.op t.n t.s t.t t.kids.length = true from by
                        unfold pat1; simp [te, o17, o18, o19, o20, a, cn])
                      have p17 : (t.op == 17) = false := by rw [o20]; rfl
                      have r17 : (t.op != 17) = true := by rw [o20]; rfl
                      have p18 : (t.op == 18) = false := by rw [o20]; rfl
                      have r18 : (t.op != 18) = true := by rw [o20]; rfl
                      have p19 : (t.op == 19) = false := by rw [o20]; rfl
                      have r19 : (t.op != 19) = true := by rw [o20]; rfl
                      have p20 : (t.op == 20) = true := by rw [o20]; rfl
                      have r20 : (t.op != 20) = false := by rw [o20]; rfl
                      clear o17
                      clear o18
                      clear o19
                      clear o20
                      have an : (t.n != 0) = false := by simp only [bne, a]; rfl
                      have HCN := Lib.hid (fun (wx : World) => specCon t.s wx hsz2)
                      rw [cn] at HCN
                      clear cn
                      go_wp2_with (first | (go_at_call 21; refine (HCN.out _).mono ?_; rintro e w9 ⟨rfl, rfl⟩))
                      go_ret
                      exact ⟨ret_bool (by rw [hte.out, hv.out, hko.out]; rfl), hbl.out⟩
                · skip
                  by_cases hk : t.kids.length = 0
                  · skip
                    cases a : (t.n == 0)
                    · skip
                      have hv := Lib.hid (show pat1 t.op t.n t.s t.t t.kids.length = false from by
                        unfold pat1; simp [te, o17, o18, o19, o20, hk, a])
                      have p17 : (t.op == 17) = false := by simpa using o17
                      have r17 : (t.op != 17) = true := by simp [bne, p17]
                      have p18 : (t.op == 18) = false := by simpa using o18
                      have r18 : (t.op != 18) = true := by simp [bne, p18]
                      have p19 : (t.op == 19) = false := by simpa using o19
                      have r19 : (t.op != 19) = true := by simp [bne, p19]
                      have p20 : (t.op == 20) = false := by simpa using o20
                      have r20 : (t.op != 20) = true := by simp [bne, p20]
                      clear o17
                      clear o18
                      clear o19
                      clear o20
                      have hk1 : (t.kids.length == 0) = true := by simp [hk]
                      have hk2 : ((t.kids.length : Int) == 0) = true := by rw [beq_iff_eq]; omega
                      have hk3 : ¬ (0 : Int) < (t.kids.length : Int) := by omega
                      have hk4 : decide (0 < t.kids.length) = false := by simp [hk]
                      have Hhk := Lib.hid hk
                      clear hk
                      have an : (t.n != 0) = true := by simp only [bne, a]; rfl
                      go_wp2_with fail
                      go_ret
                      exact ⟨ret_bool (by rw [hte.out, hv.out, hko.out]; rfl), hbl.out⟩
                    · skip
                      have hv := Lib.hid (show pat1 t.op t.n t.s t.t t.kids.length = false from by
                        unfold pat1; simp [te, o17, o18, o19, o20, hk, a])
                      have p17 : (t.op == 17) = false := by simpa using o17
                      have r17 : (t.op != 17) = true := by simp [bne, p17]
                      have p18 : (t.op == 18) = false := by simpa using o18
                      have r18 : (t.op != 18) = true := by simp [bne, p18]
                      have p19 : (t.op == 19) = false := by simpa using o19
                      have r19 : (t.op != 19) = true := by simp [bne, p19]
                      have p20 : (t.op == 20) = false := by simpa using o20
                      have r20 : (t.op != 20) = true := by simp [bne, p20]
                      clear o17
                      clear o18
                      clear o19
                      clear o20
                      have hk1 : (t.kids.length == 0) = true := by simp [hk]
                      have hk2 : ((t.kids.length : Int) == 0) = true := by rw [beq_iff_eq]; omega
                      have hk3 : ¬ (0 : Int) < (t.kids.length : Int) := by omega
                      have hk4 : decide (0 < t.kids.length) = false := by simp [hk]
                      have Hhk := Lib.hid hk
                      clear hk
                      have an : (t.n != 0) = false := by simp only [bne, a]; rfl
                      go_wp2_with fail
                      go_ret
                      exact ⟨ret_bool (by rw [hte.out, hv.out, hko.out]; rfl), hbl.out⟩
                  · skip
                    have hv := Lib.hid (show pat1 t.op t.n t.s t.t t.kids.length = false from by
                      unfold pat1; simp [te, o17, o18, o19, o20, hk])
                    have p17 : (t.op == 17) = false := by simpa using o17
                    have r17 : (t.op != 17) = true := by simp [bne, p17]
                    have p18 : (t.op == 18) = false := by simpa using o18
                    have r18 : (t.op != 18) = true := by simp [bne, p18]
                    have p19 : (t.op == 19) = false := by simpa using o19
                    have r19 : (t.op != 19) = true := by simp [bne, p19]
                    have p20 : (t.op == 20) = false := by simpa using o20
                    have r20 : (t.op != 20) = true := by simp [bne, p20]
                    clear o17
                    clear o18
                    clear o19
                    clear o20
                    have hk1 : (t.kids.length == 0) = false := by simp [hk]
                    have hk2 : ((t.kids.length : Int) == 0) = false := by rw [beq_eq_false_iff_ne]; omega
                    have hk3 : (0 : Int) < (t.kids.length : Int) := by omega
                    have hk4 : decide (0 < t.kids.length) = true := decide_eq_true (by omega)
                    have Hhk := Lib.hid hk
                    clear hk
                    go_wp2_with fail
                    go_ret
                    exact ⟨ret_bool (by rw [hte.out, hv.out, hko.out]; rfl), hbl.out⟩

end Go.Proofs.YtgbcdfeflgnogaaGreat

/- Expressions that are tidy: what both compute (no program in sight). Conditions: none. -/
namespace Go.Proofs.YtgbcdfeflgnogaaGreat
open Go.RowKit
set_option linter.unusedVariables false

/-- is one expression tidy by itself, with so many kids? -/
def exp1 (op n : Int) (s t : ByteArray) (k : Nat) : Bool :=
  if op = 1 then inB n 0 1073741823 && (s.toList.isEmpty && (t.toList.isEmpty && k == 0))
  else n == 0 && (if op = 2 then nameB s && (t.toList.isEmpty && k == 0)
  else if op = 3 then nameB s && (t.toList.isEmpty && k == 1)
  else if op = 5 then nameB s && (t.toList.isEmpty && k == 2)
  else if op = 6 then nameB s && (nameB t && k == 2)
  else if op = 15 then conB s && t.toList.isEmpty
  else s.toList.isEmpty && (t.toList.isEmpty && (if op = 16 then k == 1 else if op = 9 then k == 3 else if op = 7 then decide (2 ≤ k) else if op = 4 then k == 2 else inB op 10 14 && k == 2)))
def alt1 (op n : Int) (s t : ByteArray) (k : Nat) : Bool := op == 8 && (n == 0 && (s.toList.isEmpty && (t.toList.isEmpty && k == 2)))
mutual
def GNode.exp : GNode → Bool | .mk op n s t kids => exp1 op n s t kids.length && (if op = 7 then GNode.caseL kids else GNode.expL kids)
def GNode.expL : List GNode → Bool | [] => true | x :: r => x.exp && GNode.expL r
def GNode.caseL : List GNode → Bool | [] => false | x :: r => x.exp && GNode.altL r
def GNode.altL : List GNode → Bool | [] => true | a :: r => a.alt && GNode.altL r
def GNode.alt : GNode → Bool | .mk op n s t kids => alt1 op n s t kids.length && GNode.altK kids
def GNode.altK : List GNode → Bool | [] => false | p :: r => p.pat && GNode.altE r
def GNode.altE : List GNode → Bool | [] => false | x :: _ => x.exp
end
theorem GNode.exp_eq (t : GNode) : t.exp = (exp1 t.op t.n t.s t.t t.kids.length && (if t.op = 7 then GNode.caseL t.kids else GNode.expL t.kids)) := by
  cases t; rw [GNode.exp]; rfl
theorem GNode.alt_eq (t : GNode) : t.alt = (alt1 t.op t.n t.s t.t t.kids.length && GNode.altK t.kids) := by
  cases t; rw [GNode.alt]; rfl
theorem GNode.expL_all : ∀ l : List GNode, GNode.expL l = l.all GNode.exp
  | [] => by rw [GNode.expL]; rfl
  | t :: r => by rw [GNode.expL, GNode.expL_all r]; rfl
theorem GNode.altL_all : ∀ l : List GNode, GNode.altL l = l.all GNode.alt
  | [] => by rw [GNode.altL]; rfl
  | t :: r => by rw [GNode.altL, GNode.altL_all r]; rfl
theorem GNode.caseL_cons (x : GNode) (r : List GNode) : GNode.caseL (x :: r) = (x.exp && r.all GNode.alt) := by rw [GNode.caseL, GNode.altL_all]
theorem GNode.altK_two (p x : GNode) : GNode.altK [p, x] = (p.pat && x.exp) := by rw [GNode.altK, GNode.altE]
end Go.Proofs.YtgbcdfeflgnogaaGreat

/- append of data onto a slice of one's own: what it owns afterwards (no program in sight). Conditions: none. -/
namespace Go.Proofs.YtgbcdfeflgnogaaGreat
open Go.RowKit
set_option linter.unusedVariables false
set_option linter.unusedSimpArgs false

/-- cells that are data, size cells each, each with blocks of its own -/
def ownC (w : World) (size : Nat) : List D → (Nat → Prop) → List Value → Prop
  | [], _, cs => cs = []
  | d :: r, S, cs => ∃ (S1 S2 : Nat → Prop) (c1 c2 : List Value), (∀ x, S1 x → S x ∧ ¬ S2 x) ∧ (∀ x, S2 x → S x) ∧ cs = c1 ++ c2 ∧ c1.length = size ∧ d.own w S1 c1 ∧ ownC w size r S2 c2

theorem ownC_keep {w w' : World} {size : Nat} : ∀ (xs : List D) (S S' : Nat → Prop) (cs : List Value), (∀ b, S b → S' b ∧ w'.heap[b]? = w.heap[b]?) → ownC w size xs S cs → ownC w' size xs S' cs
  | [], _, _, _, _, h => h
  | d :: r, S, S', cs, hk, h => by
    simp only [ownC] at h ⊢
    obtain ⟨S1, S2, c1, c2, g1, g2, e, hl, h1, h2⟩ := h
    exact ⟨S1, S2, c1, c2, fun x hx => ⟨(hk x (g1 x hx).1).1, (g1 x hx).2⟩, fun x hx => (hk x (g2 x hx)).1, e, hl, D.own_keep d S1 S1 c1 (fun b hb => ⟨hb, (hk b (g1 b hb).1).2⟩) h1, ownC_keep r S2 S2 c2 (fun b hb => ⟨hb, (hk b (g2 b hb)).2⟩) h2⟩

theorem ownC_snoc {w : World} {size : Nat} {d : D} {c : List Value} {T S : Nat → Prop} (hd : d.own w T c) (hc : c.length = size) (hT : ∀ x, T x → S x) :
    ∀ (xs : List D) (U : Nat → Prop) (cs : List Value), (∀ x, U x → S x ∧ ¬ T x) → ownC w size xs U cs → ownC w size (xs ++ [d]) (fun x => U x ∨ T x) (cs ++ c)
  | [], U, cs, _, h => by
    simp only [ownC] at h
    subst h
    simp only [List.nil_append, ownC]
    exact ⟨T, fun _ => False, c, [], fun x hx => ⟨.inr hx, fun h => h⟩, fun x hx => hx.elim, by simp, hc, hd, rfl⟩
  | e :: r, U, cs, hU, h => by
    simp only [ownC, List.cons_append] at h ⊢
    obtain ⟨S1, S2, c1, c2, g1, g2, rfl, hl, h1, h2⟩ := h
    refine ⟨S1, fun x => S2 x ∨ T x, c1, c2 ++ c, fun x hx => ⟨.inl (g1 x hx).1, fun h => ?_⟩, fun x hx => hx.elim (fun h => .inl (g2 x h)) .inr, by simp, hl, h1, ownC_snoc hd hc hT r S2 c2 (fun x hx => hU x (g2 x hx)) h2⟩
    rcases h with h | h
    · exact (g1 x hx).2 h
    · exact (hU x (g1 x hx).1).2 h

theorem ownC_row {w : World} {size b : Nat} : ∀ (xs : List D) (S : Nat → Prop) (cs : List Value) (off : Nat), (∀ j v, cs[j]? = some v → w.cell? ⟨b, off + j, none⟩ = some v) → ownC w size xs S cs → D.ownR w size b xs S off
  | [], _, _, _, _, _ => by simp only [D.ownR]
  | d :: r, S, cs, off, hc, h => by
    simp only [ownC, D.ownR] at h ⊢
    obtain ⟨S1, S2, c1, c2, g1, g2, rfl, hl, h1, h2⟩ := h
    refine ⟨S1, S2, c1, g1, g2, hl, fun j v hj => hc j v ?_, h1, ownC_row r S2 c2 (off + size) (fun j v hj => ?_) h2⟩
    · have : j < c1.length := (List.getElem?_eq_some_iff.1 hj).1
      rw [List.getElem?_append_left this]; exact hj
    · have := hc (size + j) v (by rw [List.getElem?_append_right (by omega), hl]; simpa using hj)
      rwa [← Nat.add_assoc] at this

/-- a slice that grows: nil, or a row of one's own (from block B on, below m); its n data lie in blocks of their own -/
def Gow (w : World) (B m : Nat) (e : TypeId) (size : Nat) (v : Value) (n : Nat) (xs : List D) : Prop :=
  xs.length = n ∧ ∃ cs, w.ownsRow B e size v n cs ∧ (∀ g, v.ownBlock = some g → g < m) ∧ ownC w size xs (fun b => B ≤ b ∧ b < m ∧ v.ownBlock ≠ some b) cs

theorem Gow.nil (w : World) (B m : Nat) (e : TypeId) (size : Nat) : Gow w B m e size (.slice none 0 0) 0 [] :=
  ⟨rfl, [], World.ownsRow_nil w B e size, fun g h => by simp [Value.ownBlock] at h, rfl⟩

theorem Gow.keep {w w' : World} {B m m' : Nat} {e : TypeId} {size : Nat} {v : Value} {n : Nat} {xs : List D} (h : Gow w B m e size v n xs) (hm : m ≤ m') (hk : ∀ b, B ≤ b → b < m → w'.heap[b]? = w.heap[b]?) : Gow w' B m' e size v n xs := by
  obtain ⟨h1, cs, h2, h3, h4⟩ := h
  refine ⟨h1, cs, ?_, fun g hg => Nat.lt_of_lt_of_le (h3 g hg) hm, ownC_keep xs _ _ cs (fun b hb => ⟨⟨hb.1, Nat.lt_of_lt_of_le hb.2.1 hm, hb.2.2⟩, hk b hb.1 hb.2.1⟩) h4⟩
  refine ⟨h2.1, ?_⟩
  rcases h2.2 with h | ⟨g, cap, cur, rfl, a1, a2, a3⟩
  · exact .inl h
  · exact .inr ⟨g, cap, cur, rfl, a1, (hk g a1 (h3 g rfl)).trans a2, a3⟩

theorem Gow.below {w w' : World} {B m m' : Nat} {e : TypeId} {size : Nat} {v : Value} {n : Nat} {xs : List D} (h : Gow w B m e size v n xs) (hb : Below m w w') (hm : m ≤ m') : Gow w' B m' e size v n xs :=
  h.keep hm fun b _ hb' => hb.block b hb'

/-- an empty slice that was just made -/
theorem Gow.made {w : World} {B m g : Nat} {e : TypeId} {size : Nat} (hr : Row w g e #[]) (hB : B ≤ g) (hm : g < m) : Gow w B m e size (.slice (some ⟨g, 0, none⟩) 0 0) 0 [] :=
  ⟨rfl, [], ⟨by simp, .inr ⟨g, 0, #[], rfl, hB, hr, Nat.le_refl _, by unfold maxLen; omega, by simp, by simp⟩⟩, fun g' h => by simp [Value.ownBlock] at h; omega, rfl⟩

/-- what has grown is owned -/
theorem Gow.osl {w : World} {B m : Nat} {e : TypeId} {size : Nat} {v : Value} {n : Nat} {xs : List D} (h : Gow w B m e size v n xs) : ∃ A c, v = .slice A n c ∧ Osl w (Btw B m) size A c xs := by
  obtain ⟨h1, cs, h2, h3, h4⟩ := h
  rcases h2.2 with ⟨rfl, h⟩ | ⟨g, cap, cur, rfl, a1, a2, a3, a4, a5, a6⟩
  · have : xs = [] := List.eq_nil_of_length_eq_zero (by omega)
    subst this
    exact ⟨none, 0, by rw [h], Osl.nil (by unfold maxLen; omega)⟩
  · refine ⟨_, cap, rfl, by omega, a4, .inr ⟨g, rfl, ⟨a1, h3 g rfl⟩, fun o => Row.frozen (t := e) (cs := cur) a2 o, ?_⟩⟩
    refine ownC_row xs _ cs 0 (fun j v hj => ?_) (ownC_keep xs _ _ cs (fun b hb => ⟨⟨⟨hb.1, hb.2.1⟩, fun e => hb.2.2 (by rw [e]; rfl)⟩, rfl⟩) h4)
    rw [Nat.zero_add, Row.cell (t := e) (cs := cur) a2]
    rw [← a6, List.getElem?_take] at hj
    split at hj
    · simpa using hj
    · cases hj

/-- behind an append -/
theorem Gow.step {w w' : World} {B m g cap H : Nat} {e e' : TypeId} {size : Nat} {v : Value} {n : Nat} {xs : List D} {d : D} {cs : List Value} {cells : List Value} (hB : B ≤ m) (hm : m ≤ w.heap.size)
    (hxs : xs.length = n) (hlt0 : ∀ g, v.ownBlock = some g → g < m) (hoc : ownC w size xs (fun b => B ≤ b ∧ b < m ∧ v.ownBlock ≠ some b) cells) (hd : d.own w (Btw m w.heap.size) cs) (hcs : cs.length = size)
    (hH : H = w.heap.size + 1) (hown : w'.ownsRow B e size (.slice (some ⟨g, 0, none⟩) (n + 1) cap) (n + 1) (cells ++ cs)) (hgrow : (w.alloc (.cells cs.toArray e')).grownBy w' v.ownBlock) (hat : v.ownBlock = some g ∨ g = H) (hlt : g < w'.heap.size) :
    Gow w' B w'.heap.size e size (.slice (some ⟨g, 0, none⟩) (n + 1) cap) (n + 1) (xs ++ [d]) := by
  have hsz : (w.alloc (.cells cs.toArray e')).heap.size ≤ w'.heap.size := hgrow.size
  have hsz' : w.heap.size + 1 ≤ w'.heap.size := by simpa using hsz
  have hne : ∀ b, b < w.heap.size → v.ownBlock ≠ some b → w'.heap[b]? = w.heap[b]? := fun b hb hb2 =>
    (hgrow.block b (by simp; omega) (fun e => hb2 e.symm)).trans (Below.heap_alloc w _ b hb)
  refine ⟨by simp [hxs], cells ++ cs, hown, fun g' hg' => by simp [Value.ownBlock] at hg'; omega, ?_⟩
  have hgm : g < m ∨ g = H := by
    rcases hat with h | h
    · exact .inl (hlt0 g h)
    · exact .inr h
  have k1 := ownC_keep (w' := w') xs _ (fun b => B ≤ b ∧ b < m ∧ v.ownBlock ≠ some b) cells (fun b hb => ⟨hb, hne b (by omega) hb.2.2⟩) hoc
  have k2 := D.own_keep (w' := w') d _ (Btw m w.heap.size) cs (fun b hb => ⟨hb, hne b hb.2 (fun e => by have := hlt0 b e; have := hb.1; omega)⟩) hd
  have k3 := ownC_snoc (S := fun b => B ≤ b) k2 hcs (fun x hx => Nat.le_trans hB hx.1) xs _ cells (fun x hx => ⟨hx.1, fun h => by have := h.1; omega⟩) k1
  refine ownC_keep _ _ _ _ (fun b hb => ⟨?_, rfl⟩) k3
  rcases hb with ⟨b1, b2, b3⟩ | ⟨b1, b2⟩
  · refine ⟨b1, by omega, fun e => ?_⟩
    simp only [Value.ownBlock, Option.some.injEq] at e
    subst e
    rcases hat with h | h
    · exact b3 h
    · omega
  · refine ⟨by omega, by omega, fun e => ?_⟩
    simp only [Value.ownBlock, Option.some.injEq] at e
    omega

theorem Gow.grown {w w' : World} {B m : Nat} {e : TypeId} {size : Nat} {v : Value} {n : Nat} {xs : List D} (h : Gow w B m e size v n xs) (hg : w.grownBy w' v.ownBlock) (hm : B ≤ w.heap.size) : Below B w w' := by
  refine ⟨hg.os, hg.tape, hg.output, hg.size, fun b hb => hg.block b (by omega) (fun e => ?_)⟩
  obtain ⟨_, cs, h2, _, _⟩ := h
  have := h2.lt b e.symm
  omega

theorem wpList_append_D {P : Program} (w : World) {ops : Array Oper} {rest : List Oper} {o : Oper} {a : Act} {Q : Exit → Act → World → Prop} (hgd : o.guard = none) (s x : Operand) (t : TypeId) (ho : o.op = .call { callee := .builtin .append, args := #[s, x], argTypes := #[t, t] })
    (e : TypeId) (z : Value) (size bytes : Nat) (ht : P.underlying t = some (.slice e)) (hi : (P.info? e).map (fun i => (i.zero, i.size, i.bytes)) = some (some z, size, bytes)) (hzs : z.cells.size = size) (hsz : 0 < size)
    (B m : Nat) (v : Value) (n : Nat) (xs : List D) (hg : Gow w B m e size v n xs) (d : D) (cs : List Value) (hd : d.own w (Btw m w.heap.size) cs) (hB : B ≤ m) (hm : m ≤ w.heap.size) (hcs : cs.length = size) (h1 : ∀ u ∈ cs, u.oneCell' = true)
    (hn : n < 1048577) (hby : bytes ≤ 1048576) (e' : TypeId) (hs : a.eval s = v) (A : Nat) (hA : A = w.heap.size) (hx : a.eval x = .slice (some ⟨A, 0, none⟩) 1 1)
    (h : ∀ g cap w', Gow w' B w'.heap.size e size (.slice (some ⟨g, 0, none⟩) (n + 1) cap) (n + 1) (xs ++ [d]) → Below B w w' → w.heap.size ≤ w'.heap.size → B ≤ g → g < w'.heap.size → wpList P ops Q rest (a.put o.dst (.slice (some ⟨g, 0, none⟩) (n + 1) cap)) w') : wpList P ops Q (o :: rest) a (w.alloc (.cells cs.toArray e')) := by
  obtain ⟨i, i1, i2, i3, i4⟩ := info_parts hi
  obtain ⟨hxs, cells, g2, g3, g4⟩ := id hg
  have e1 : w.heap.size < (w.alloc (.cells cs.toArray e')).heap.size := by simp
  have hga := g2.alloc (.cells cs.toArray e')
  have hnews : ∀ j u, cs[j]? = some u → (w.alloc (.cells cs.toArray e')).cell? ((⟨A, 0, none⟩ : Addr).add j) = some u := fun j u hu => by
    subst hA
    exact World.news_of_block (cs := cs.toArray) (heap_alloc_new w _) j u (by simpa using hu)
  have hbt : (n + 1) * bytes ≤ 140737488355328 := Nat.le_trans (Nat.mul_le_mul (show n + 1 ≤ 1048577 by omega) hby) (by omega)
  exact wpList_append_lies (w.alloc (.cells cs.toArray e')) hgd s x t ho B e i z size bytes ht i1 i2 i3 i4 hzs hsz v n cells hs hga ⟨A, 0, none⟩ 1 1 cs hx (by omega) hnews h1 (by omega) (by unfold maxLen; omega) hbt (by simp; omega) _ rfl fun g cap w' h2 h3 h4 h5 => h g cap w' (Gow.step (e' := e') hB hm hxs g3 g4 hd hcs (by simp) h2 h3 h4 h5)
    (((Below.refl _ _).alloc (by omega) _).trans (Gow.grown (hg.below (m := m) (m' := m) ((Below.refl _ _).alloc hm _) (Nat.le_refl _)) h3 (by omega))) (Nat.le_trans (Nat.le_of_lt e1) h3.size) (h2.lt g rfl).1 h5

theorem step_append_D {P : Program} (w : World) {ops : Array Oper} {o : Oper} {a : Act} {K : Act → World → Prop} {Q : Exit → Act → World → Prop} {E : Prop} (hgd : o.guard = none) (s x : Operand) (t : TypeId) (ho : o.op = .call { callee := .builtin .append, args := #[s, x], argTypes := #[t, t] })
    (e : TypeId) (z : Value) (size bytes : Nat) (ht : P.underlying t = some (.slice e)) (hi : (P.info? e).map (fun i => (i.zero, i.size, i.bytes)) = some (some z, size, bytes)) (hzs : z.cells.size = size) (hsz : 0 < size)
    (B m : Nat) (v : Value) (n : Nat) (xs : List D) (hg : Gow w B m e size v n xs) (d : D) (cs : List Value) (hd : d.own w (Btw m w.heap.size) cs) (hB : B ≤ m) (hm : m ≤ w.heap.size) (hcs : cs.length = size) (h1 : ∀ u ∈ cs, u.oneCell' = true)
    (hn : n < 1048577) (hby : bytes ≤ 1048576) (e' : TypeId) (hs : a.eval s = v) (A : Nat) (hA : A = w.heap.size) (hx : a.eval x = .slice (some ⟨A, 0, none⟩) 1 1)
    (h : ∀ g cap w', Gow w' B w'.heap.size e size (.slice (some ⟨g, 0, none⟩) (n + 1) cap) (n + 1) (xs ++ [d]) → Below B w w' → w.heap.size ≤ w'.heap.size → B ≤ g → g < w'.heap.size → K (a.put o.dst (.slice (some ⟨g, 0, none⟩) (n + 1) cap)) w') : if Region.wanted o (yielded ops a.tmps) = true then Oper.wp P o a (w.alloc (.cells cs.toArray e')) K Q else E := by
  obtain ⟨i, i1, i2, i3, i4⟩ := info_parts hi
  obtain ⟨hxs, cells, g2, g3, g4⟩ := id hg
  have e1 : w.heap.size < (w.alloc (.cells cs.toArray e')).heap.size := by simp
  have hga := g2.alloc (.cells cs.toArray e')
  have hnews : ∀ j u, cs[j]? = some u → (w.alloc (.cells cs.toArray e')).cell? ((⟨A, 0, none⟩ : Addr).add j) = some u := fun j u hu => by
    subst hA
    exact World.news_of_block (cs := cs.toArray) (heap_alloc_new w _) j u (by simpa using hu)
  have hbt : (n + 1) * bytes ≤ 140737488355328 := Nat.le_trans (Nat.mul_le_mul (show n + 1 ≤ 1048577 by omega) hby) (by omega)
  exact step_append_lies (w.alloc (.cells cs.toArray e')) hgd s x t ho B e i z size bytes ht i1 i2 i3 i4 hzs hsz v n cells hs hga ⟨A, 0, none⟩ 1 1 cs hx (by omega) hnews h1 (by omega) (by unfold maxLen; omega) hbt (by simp; omega) _ rfl fun g cap w' h2 h3 h4 h5 => h g cap w' (Gow.step (e' := e') hB hm hxs g3 g4 hd hcs (by simp) h2 h3 h4 h5)
    (((Below.refl _ _).alloc (by omega) _).trans (Gow.grown (hg.below (m := m) (m' := m) ((Below.refl _ _).alloc hm _) (Nat.le_refl _)) h3 (by omega))) (Nat.le_trans (Nat.le_of_lt e1) h3.size) (h2.lt g rfl).1 h5

end Go.Proofs.YtgbcdfeflgnogaaGreat

/- append of data that lie elsewhere onto a slice of one's own (no program in sight). Conditions: the data lie below the slice. -/
namespace Go.Proofs.YtgbcdfeflgnogaaGreat
open Go.RowKit
set_option linter.unusedVariables false
set_option linter.unusedSimpArgs false

/-- cells that read as data, size cells each -/
def rdC (w : World) (size : Nat) (S : Nat → Prop) : List D → List Value → Prop
  | [], cs => cs = []
  | d :: r, cs => ∃ c1 c2, cs = c1 ++ c2 ∧ c1.length = size ∧ d.rd w S c1 ∧ rdC w size S r c2
theorem rdC_keep {w w' : World} {size : Nat} {S S' : Nat → Prop} (hk : ∀ b, S b → S' b ∧ w'.heap[b]? = w.heap[b]?) : ∀ (xs : List D) (cs : List Value), rdC w size S xs cs → rdC w' size S' xs cs
  | [], _, h => h
  | d :: r, cs, h => by
    simp only [rdC] at h ⊢
    obtain ⟨c1, c2, e, hl, h1, h2⟩ := h
    exact ⟨c1, c2, e, hl, D.rd_keep hk d c1 h1, rdC_keep hk r c2 h2⟩
theorem rdC_snoc {w : World} {size : Nat} {S : Nat → Prop} {d : D} {c : List Value} (hd : d.rd w S c) (hc : c.length = size) : ∀ (xs : List D) (cs : List Value), rdC w size S xs cs → rdC w size S (xs ++ [d]) (cs ++ c)
  | [], cs, h => by
    simp only [rdC] at h
    subst h
    simp only [List.nil_append, rdC]
    exact ⟨c, [], by simp, hc, hd, rfl⟩
  | e :: r, cs, h => by
    simp only [rdC, List.cons_append] at h ⊢
    obtain ⟨c1, c2, rfl, hl, h1, h2⟩ := h
    exact ⟨c1, c2 ++ c, by simp, hl, h1, rdC_snoc hd hc r c2 h2⟩
theorem rdC_row {w : World} {size b : Nat} {S : Nat → Prop} : ∀ (xs : List D) (cs : List Value) (off : Nat), (∀ j v, cs[j]? = some v → w.cell? ⟨b, off + j, none⟩ = some v) → rdC w size S xs cs → D.rdR w S size b xs off
  | [], _, _, _, _ => by simp only [D.rdR]
  | d :: r, cs, off, hc, h => by
    simp only [rdC, D.rdR] at h ⊢
    obtain ⟨c1, c2, rfl, hl, h1, h2⟩ := h
    refine ⟨⟨c1, hl, fun j v hj => hc j v ?_, h1⟩, rdC_row r c2 (off + size) (fun j v hj => ?_) h2⟩
    · have : j < c1.length := (List.getElem?_eq_some_iff.1 hj).1
      rw [List.getElem?_append_left this]; exact hj
    · have := hc (size + j) v (by rw [List.getElem?_append_right (by omega), hl]; simpa using hj)
      rwa [← Nat.add_assoc] at this

/-- a slice that grows: nil, or a row of one's own from block B on; its data lie below B -/
def Gsh (w : World) (B : Nat) (e : TypeId) (size : Nat) (v : Value) (n : Nat) (xs : List D) : Prop :=
  xs.length = n ∧ ∃ cs, w.ownsRow B e size v n cs ∧ rdC w size (Lt B) xs cs
theorem Gsh.nil (w : World) (B : Nat) (e : TypeId) (size : Nat) : Gsh w B e size (.slice none 0 0) 0 [] :=
  ⟨rfl, [], World.ownsRow_nil w B e size, rfl⟩
theorem Gsh.made {w : World} {B g : Nat} {e : TypeId} {size : Nat} (hr : Row w g e #[]) (hB : B ≤ g) : Gsh w B e size (.slice (some ⟨g, 0, none⟩) 0 0) 0 [] :=
  ⟨rfl, [], ⟨by simp, .inr ⟨g, 0, #[], rfl, hB, hr, Nat.le_refl _, by unfold maxLen; omega, by simp, by simp⟩⟩, rfl⟩
theorem Gsh.below {w w' : World} {B : Nat} {e : TypeId} {size : Nat} {v : Value} {n : Nat} {xs : List D} (h : Gsh w B e size v n xs) (hb : Below w.heap.size w w') (hB : B ≤ w.heap.size) : Gsh w' B e size v n xs := by
  obtain ⟨h1, cs, h2, h4⟩ := h
  refine ⟨h1, cs, ?_, rdC_keep (fun b hb' => ⟨hb', hb.block b (Nat.lt_of_lt_of_le hb' hB)⟩) xs cs h4⟩
  refine ⟨h2.1, ?_⟩
  rcases h2.2 with h | ⟨g, cap, cur, rfl, a1, a2, a3⟩
  · exact .inl h
  · exact .inr ⟨g, cap, cur, rfl, a1, (hb.block g (h2.lt g rfl).2).trans a2, a3⟩
theorem Gsh.sl {w : World} {B : Nat} {e : TypeId} {size : Nat} {v : Value} {n : Nat} {xs : List D} (h : Gsh w B e size v n xs) (hB : B ≤ w.heap.size) : ∃ A c, v = .slice A n c ∧ Sl w (Lt w.heap.size) size A c xs := by
  obtain ⟨h1, cs, h2, h4⟩ := h
  have hlt := h2.lt
  rcases h2.2 with ⟨rfl, h⟩ | ⟨g, cap, cur, rfl, a1, a2, a3, a4, a5, a6⟩
  · have : xs = [] := List.eq_nil_of_length_eq_zero (by omega)
    subst this
    exact ⟨none, 0, by rw [h], Sl.nil (by unfold maxLen; omega)⟩
  · refine ⟨_, cap, rfl, by omega, a4, .inr ⟨g, 0, rfl, (hlt g rfl).2, ?_⟩⟩
    refine rdC_row xs cs 0 (fun j v hj => ?_) (rdC_keep (fun b hb => ⟨Nat.lt_of_lt_of_le hb hB, rfl⟩) xs cs h4)
    rw [Nat.zero_add, Row.cell (t := e) (cs := cur) a2]
    rw [← a6, List.getElem?_take] at hj
    split at hj
    · simpa using hj
    · cases hj
theorem Gsh.step {w w' : World} {B g cap : Nat} {e e' : TypeId} {size : Nat} {v : Value} {n : Nat} {xs : List D} {d : D} {cs cells : List Value} (hB : B ≤ w.heap.size)
    (hxs : xs.length = n) (hbase : ∀ g, v.ownBlock = some g → B ≤ g) (hoc : rdC w size (Lt B) xs cells) (hd : d.rd w (Lt B) cs) (hcs : cs.length = size)
    (hown : w'.ownsRow B e size (.slice (some ⟨g, 0, none⟩) (n + 1) cap) (n + 1) (cells ++ cs)) (hgrow : (w.alloc (.cells cs.toArray e')).grownBy w' v.ownBlock) :
    Gsh w' B e size (.slice (some ⟨g, 0, none⟩) (n + 1) cap) (n + 1) (xs ++ [d]) := by
  have hne : ∀ b, b < B → w'.heap[b]? = w.heap[b]? := fun b hb =>
    (hgrow.block b (by simp; omega) (fun e => by have := hbase b e.symm; omega)).trans (Below.heap_alloc w _ b (by omega))
  exact ⟨by simp [hxs], cells ++ cs, hown, rdC_snoc (D.rd_keep (fun b hb => ⟨hb, hne b hb⟩) d cs hd) hcs xs cells (rdC_keep (fun b hb => ⟨hb, hne b hb⟩) xs cells hoc)⟩

theorem wpList_append_S {P : Program} (w : World) {ops : Array Oper} {rest : List Oper} {o : Oper} {a : Act} {Q : Exit → Act → World → Prop} (hgd : o.guard = none) (s x : Operand) (t : TypeId) (ho : o.op = .call { callee := .builtin .append, args := #[s, x], argTypes := #[t, t] })
    (e : TypeId) (z : Value) (size bytes : Nat) (ht : P.underlying t = some (.slice e)) (hi : (P.info? e).map (fun i => (i.zero, i.size, i.bytes)) = some (some z, size, bytes)) (hzs : z.cells.size = size) (hsz : 0 < size)
    (B : Nat) (v : Value) (n : Nat) (xs : List D) (hg : Gsh w B e size v n xs) (d : D) (cs : List Value) (hd : d.rd w (Lt B) cs) (hB : B ≤ w.heap.size) (hcs : cs.length = size) (h1 : ∀ u ∈ cs, u.oneCell' = true)
    (hn : n < 1048577) (hby : bytes ≤ 1048576) (e' : TypeId) (hs : a.eval s = v) (A : Nat) (hA : A = w.heap.size) (hx : a.eval x = .slice (some ⟨A, 0, none⟩) 1 1)
    (h : ∀ g cap w', Gsh w' B e size (.slice (some ⟨g, 0, none⟩) (n + 1) cap) (n + 1) (xs ++ [d]) → Below B w w' → w.heap.size ≤ w'.heap.size → B ≤ g → g < w'.heap.size → wpList P ops Q rest (a.put o.dst (.slice (some ⟨g, 0, none⟩) (n + 1) cap)) w') : wpList P ops Q (o :: rest) a (w.alloc (.cells cs.toArray e')) := by
  obtain ⟨i, i1, i2, i3, i4⟩ := info_parts hi
  obtain ⟨hxs, cells, g2, g4⟩ := id hg
  have e1 : w.heap.size < (w.alloc (.cells cs.toArray e')).heap.size := by simp
  have hga := g2.alloc (.cells cs.toArray e')
  have hnews : ∀ j u, cs[j]? = some u → (w.alloc (.cells cs.toArray e')).cell? ((⟨A, 0, none⟩ : Addr).add j) = some u := fun j u hu => by
    subst hA
    exact World.news_of_block (cs := cs.toArray) (heap_alloc_new w _) j u (by simpa using hu)
  have hbt : (n + 1) * bytes ≤ 140737488355328 := Nat.le_trans (Nat.mul_le_mul (show n + 1 ≤ 1048577 by omega) hby) (by omega)
  exact wpList_append_lies (w.alloc (.cells cs.toArray e')) hgd s x t ho B e i z size bytes ht i1 i2 i3 i4 hzs hsz v n cells hs hga ⟨A, 0, none⟩ 1 1 cs hx (by omega) hnews h1 (by omega) (by unfold maxLen; omega) hbt (by simp; omega) _ rfl fun g cap w' h2 h3 h4 h5 => h g cap w' (Gsh.step (e' := e') hB hxs (fun g hg => (g2.lt g hg).1) g4 hd hcs h2 h3)
    (((Below.refl _ _).alloc (by omega) _).trans (⟨h3.os, h3.tape, h3.output, h3.size, fun b hb => h3.block b (by omega) (fun e => by have := (g2.lt b e.symm).1; omega)⟩)) (Nat.le_trans (Nat.le_of_lt e1) h3.size) (h2.lt g rfl).1 h5

theorem step_append_S {P : Program} (w : World) {ops : Array Oper} {o : Oper} {a : Act} {K : Act → World → Prop} {Q : Exit → Act → World → Prop} {E : Prop} (hgd : o.guard = none) (s x : Operand) (t : TypeId) (ho : o.op = .call { callee := .builtin .append, args := #[s, x], argTypes := #[t, t] })
    (e : TypeId) (z : Value) (size bytes : Nat) (ht : P.underlying t = some (.slice e)) (hi : (P.info? e).map (fun i => (i.zero, i.size, i.bytes)) = some (some z, size, bytes)) (hzs : z.cells.size = size) (hsz : 0 < size)
    (B : Nat) (v : Value) (n : Nat) (xs : List D) (hg : Gsh w B e size v n xs) (d : D) (cs : List Value) (hd : d.rd w (Lt B) cs) (hB : B ≤ w.heap.size) (hcs : cs.length = size) (h1 : ∀ u ∈ cs, u.oneCell' = true)
    (hn : n < 1048577) (hby : bytes ≤ 1048576) (e' : TypeId) (hs : a.eval s = v) (A : Nat) (hA : A = w.heap.size) (hx : a.eval x = .slice (some ⟨A, 0, none⟩) 1 1)
    (h : ∀ g cap w', Gsh w' B e size (.slice (some ⟨g, 0, none⟩) (n + 1) cap) (n + 1) (xs ++ [d]) → Below B w w' → w.heap.size ≤ w'.heap.size → B ≤ g → g < w'.heap.size → K (a.put o.dst (.slice (some ⟨g, 0, none⟩) (n + 1) cap)) w') : if Region.wanted o (yielded ops a.tmps) = true then Oper.wp P o a (w.alloc (.cells cs.toArray e')) K Q else E := by
  obtain ⟨i, i1, i2, i3, i4⟩ := info_parts hi
  obtain ⟨hxs, cells, g2, g4⟩ := id hg
  have e1 : w.heap.size < (w.alloc (.cells cs.toArray e')).heap.size := by simp
  have hga := g2.alloc (.cells cs.toArray e')
  have hnews : ∀ j u, cs[j]? = some u → (w.alloc (.cells cs.toArray e')).cell? ((⟨A, 0, none⟩ : Addr).add j) = some u := fun j u hu => by
    subst hA
    exact World.news_of_block (cs := cs.toArray) (heap_alloc_new w _) j u (by simpa using hu)
  have hbt : (n + 1) * bytes ≤ 140737488355328 := Nat.le_trans (Nat.mul_le_mul (show n + 1 ≤ 1048577 by omega) hby) (by omega)
  exact step_append_lies (w.alloc (.cells cs.toArray e')) hgd s x t ho B e i z size bytes ht i1 i2 i3 i4 hzs hsz v n cells hs hga ⟨A, 0, none⟩ 1 1 cs hx (by omega) hnews h1 (by omega) (by unfold maxLen; omega) hbt (by simp; omega) _ rfl fun g cap w' h2 h3 h4 h5 => h g cap w' (Gsh.step (e' := e') hB hxs (fun g hg => (g2.lt g hg).1) g4 hd hcs h2 h3)
    (((Below.refl _ _).alloc (by omega) _).trans (⟨h3.os, h3.tape, h3.output, h3.size, fun b hb => h3.block b (by omega) (fun e => by have := (g2.lt b e.symm).1; omega)⟩)) (Nat.le_trans (Nat.le_of_lt e1) h3.size) (h2.lt g rfl).1 h5

end Go.Proofs.YtgbcdfeflgnogaaGreat
