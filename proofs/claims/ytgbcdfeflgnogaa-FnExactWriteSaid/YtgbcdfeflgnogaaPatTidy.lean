/- Patterns that are tidy. Conditions: none. -/
import Derived.Test.YtgbcdfeflgnogaaNameOk
import Derived.Test.YtgbcdfeflgnogaaFNode
namespace Go.Proofs.Ytgbcdfeflgnogaa
open Go.RowKit
set_option linter.unusedVariables false
set_option linter.unusedSimpArgs false
set_option maxHeartbeats 1000000

/-- is one pattern tidy by itself, with so many kids? -/
def pat1 (op n : Int) (s t : ByteArray) (k : Nat) : Bool :=
  t.toList.isEmpty && (if op = 17 then k == 0 && (n == 0 && s.toList.isEmpty)
  else if op = 18 then k == 0 && (n == 0 && nameB s)
  else if op = 19 then k == 0 && (inB n 0 1073741823 && s.toList.isEmpty)
  else if op = 20 then n == 0 && conB s else false)
mutual
def GNode.pat : GNode → Bool | .mk op n s t kids => pat1 op n s t kids.length && GNode.patL kids
def GNode.patL : List GNode → Bool | [] => true | t :: r => t.pat && GNode.patL r
end
theorem GNode.pat_eq (t : GNode) : t.pat = (pat1 t.op t.n t.s t.t t.kids.length && GNode.patL t.kids) := by
  cases t; simp only [GNode.pat, GNode.op, GNode.n, GNode.s, GNode.t, GNode.kids]
theorem GNode.patL_all : ∀ l : List GNode, GNode.patL l = l.all GNode.pat
  | [] => rfl
  | t :: r => by simp only [GNode.patL, List.all_cons, GNode.patL_all r]
theorem all_not_any {α : Type} (p : α → Bool) : ∀ l : List α, (!l.any fun x => !p x) = l.all p
  | [] => rfl
  | x :: r => by simp only [List.any_cons, List.all_cons, Bool.not_or, Bool.not_not, all_not_any p r]

set_option maxRecDepth 20000 in
/-- are all of some nodes as a function tells? -/
theorem implAllNodes (K : Nat) (hK : ∀ (args : Array Value) (w : World), (callFunc K args).run Try.prog w = .ok (.enter K args) w) (caps : Array Value) (p : GNode → Bool) (l : List GNode) (A : Option Addr) (c : Nat) (w : World) (hs : Sl w (Lt w.heap.size) 5 A c (l.map GNode.toD))
    (H : ∀ x, x ∈ l → ∀ (A1 : Option Addr) (c1 : Nat) (w2 : World), Below w.heap.size w w2 → GNode.At w2 (Lt w2.heap.size) A1 c1 x →
      Calls Try.prog K (#[.agg #[.int .i64 x.op, .int .i64 x.n, .string x.s, .string x.t, .slice A1 x.kids.length c1]] ++ caps) w2 fun e w' => e = .returned (.bool (p x)) ∧ Below w2.heap.size w2 w') :
    Calls Try.prog 196 #[.slice A l.length c, .func (.func K) #[] caps] w fun e w' => e = .returned (.bool (l.all p)) ∧ Below w.heap.size w w' := by
  have HH := Lib.hid H
  have HS := Lib.hid hs
  obtain ⟨w0, e0⟩ : ∃ w0, w0 = w.alloc (.cells #[.func (.func K) #[] caps] 143) := ⟨_, rfl⟩
  have E0 := Lib.hid (show Below w.heap.size w w0 by rw [e0]; exact (Below.refl _ _).alloc (Nat.le_refl _) _)
  have R0 := Lib.hid (show Row w0 w.heap.size 143 #[.func (.func K) #[] caps] by rw [e0]; exact Row.new' _ _ _ rfl)
  have HC : ∀ x, x ∈ l → ∀ (A1 : Option Addr) (c1 : Nat) (w2 : World), Below w0.heap.size w0 w2 → GNode.At w2 (Lt w2.heap.size) A1 c1 x →
      Calls Try.prog 251 (#[.agg #[.int .i64 x.op, .int .i64 x.n, .string x.s, .string x.t, .slice A1 x.kids.length c1]] ++ #[.pointer (some ⟨w.heap.size, 0, none⟩)]) w2 fun e w' => e = .returned (.bool (!p x)) ∧ Below w2.heap.size w2 w' := by
    intro x hx A1 c1 w2 hbw hx2
    obtain ⟨w3, e3⟩ : ∃ w3, w3 = w2.alloc (.cells #[.int .i64 x.op, .int .i64 x.n, .string x.s, .string x.t, .slice A1 x.kids.length c1] 49) := ⟨_, rfl⟩
    have E3 := Lib.hid (show Below w2.heap.size w2 w3 by rw [e3]; exact (Below.refl _ _).alloc (Nat.le_refl _) _)
    have R2 := R0.out.below hbw R0.out.lt
    have R3 := Lib.hid (R2.below E3.out R2.lt)
    have hc3 := fun i => R3.out.cell i
    have HX := Lib.hid (HH.out x hx A1 c1 w3 ((E0.out.trans (hbw.mono E0.out.size)).trans (E3.out.mono (Nat.le_trans E0.out.size hbw.size))) (hx2.below E3.out E3.out.size))
    rw [e3] at hc3
    have EQ := Lib.hid e3
    clear hx2 hbw e3 R2 e0 hs H
    go_enter Try.func251, Try.ntmps251
    go_wp2_with fail
    rw [← EQ.out]
    refine HX.out.mono ?_
    rintro e w4 ⟨rfl, hb4⟩
    go_wp2_with fail
    go_ret
    exact ⟨rfl, E3.out.trans (hb4.mono E3.out.size)⟩
  have HC2 := Lib.hid HC
  have HA := Lib.hid (all_not_any p l)
  have EQ := Lib.hid e0
  clear HC e0 hs H
  go_enter Try.func196, Try.ntmps196
  go_wp2_with fail
  rw [← EQ.out]
  refine (containsFuncNode 251 (enters Try.func251 (by kernel_rfl) (by kernel_rfl)) #[.pointer (some ⟨w.heap.size, 0, none⟩)] (fun x => !p x) l A c w0 (HS.out.below E0.out E0.out.size) (fun x hx A2 c2 w2 hb2 hx2 => HC2.out x hx A2 c2 w2 hb2 hx2)).mono ?_
  rintro e w1 ⟨rfl, hb1⟩
  go_wp2_with fail
  go_ret
  exact ⟨ret_bool HA.out, E0.out.trans (hb1.mono E0.out.size)⟩

set_option maxRecDepth 20000 in
theorem implPatTidy (k : Nat) : ∀ (t : GNode) (A1 : Option Addr) (c1 : Nat) (w : World), t.bulk < k → GNode.At w (Lt w.heap.size) A1 c1 t →
    Calls Try.prog 252 #[.agg #[.int .i64 t.op, .int .i64 t.n, .string t.s, .string t.t, .slice A1 t.kids.length c1]] w fun e w' => e = .returned (.bool t.pat) ∧ Below w.heap.size w w' := by
  induction k with
  | zero => intro t A1 c1 w h; omega
  | succ k ih =>
    intro t A1 c1 w hk0 ht
    obtain ⟨h0, h1, h2, h3, hs⟩ := id ht
    have hsz2 : t.s.size ≤ 9223372036854775807 := by unfold maxLen at h2; omega
    have hlen : t.kids.length ≤ 9223372036854775807 := by simpa using hs.len
    have hte := Lib.hid t.pat_eq
    have hbe := t.bulk_eq
    obtain ⟨w0, e0⟩ : ∃ w0, w0 = w.alloc (.cells #[.int .i64 t.op, .int .i64 t.n, .string t.s, .string t.t, .slice A1 t.kids.length c1] 49) := ⟨_, rfl⟩
    have E := Lib.hid (show Below w.heap.size w w0 by rw [e0]; exact (Below.refl _ _).alloc (Nat.le_refl _) _)
    have R := Lib.hid (show Row w0 w.heap.size 49 #[.int .i64 t.op, .int .i64 t.n, .string t.s, .string t.t, .slice A1 t.kids.length c1] by rw [e0]; exact Row.new' _ _ _ rfl)
    have EQ := Lib.hid e0
    have HC : ∀ x, x ∈ t.kids → ∀ (A1 : Option Addr) (c1 : Nat) (w2 : World), Below w0.heap.size w0 w2 → GNode.At w2 (Lt w2.heap.size) A1 c1 x →
        Calls Try.prog 252 (#[.agg #[.int .i64 x.op, .int .i64 x.n, .string x.s, .string x.t, .slice A1 x.kids.length c1]] ++ #[]) w2 fun e w' => e = .returned (.bool x.pat) ∧ Below w2.heap.size w2 w' := by
      intro x hx A1 c1 w2 _ hx2
      exact ih x A1 c1 w2 (by have := bulkL_mem GNode.bulk t.kids x hx; omega) hx2
    have HH := Lib.hid HC
    have HS := Lib.hid (hs.below E.out E.out.size)
    clear HC ih hbe e0 h0 h1 h2 h3 hs ht
    cases te : (t.t.toList.isEmpty)
    · skip
      have hv := Lib.hid (show pat1 t.op t.n t.s t.t t.kids.length = false from by
        unfold pat1; simp [te])
      go_enter Try.func252, Try.ntmps252
      go_wp2_with fail
      go_ret
      rw [← EQ.out]
      exact ⟨ret_bool (by rw [hte.out, hv.out]; rfl), E.out⟩
    · skip
      by_cases o17 : t.op = 17
      · skip
        cases a : (t.n == 0)
        · skip
          have hv := Lib.hid (show pat1 t.op t.n t.s t.t t.kids.length = false from by
            unfold pat1; simp [te, o17, a])
          have p17 : (t.op == 17) = true := by rw [o17]; rfl
          have r17 : (t.op != 17) = false := by rw [o17]; rfl
          have p18 : (t.op == 18) = false := by rw [o17]; rfl
          have r18 : (t.op != 18) = true := by rw [o17]; rfl
          have p19 : (t.op == 19) = false := by rw [o17]; rfl
          have r19 : (t.op != 19) = true := by rw [o17]; rfl
          have p20 : (t.op == 20) = false := by rw [o17]; rfl
          have r20 : (t.op != 20) = true := by rw [o17]; rfl
          clear o17
          go_enter Try.func252, Try.ntmps252
          go_wp2_with fail
          go_ret
          rw [← EQ.out]
          exact ⟨ret_bool (by rw [hte.out, hv.out]; rfl), E.out⟩
        · skip
          cases b : (t.s.toList.isEmpty)
          · skip
            have hv := Lib.hid (show pat1 t.op t.n t.s t.t t.kids.length = false from by
              unfold pat1; simp [te, o17, a, b])
            have p17 : (t.op == 17) = true := by rw [o17]; rfl
            have r17 : (t.op != 17) = false := by rw [o17]; rfl
            have p18 : (t.op == 18) = false := by rw [o17]; rfl
            have r18 : (t.op != 18) = true := by rw [o17]; rfl
            have p19 : (t.op == 19) = false := by rw [o17]; rfl
            have r19 : (t.op != 19) = true := by rw [o17]; rfl
            have p20 : (t.op == 20) = false := by rw [o17]; rfl
            have r20 : (t.op != 20) = true := by rw [o17]; rfl
            clear o17
            go_enter Try.func252, Try.ntmps252
            go_wp2_with fail
            go_ret
            rw [← EQ.out]
            exact ⟨ret_bool (by rw [hte.out, hv.out]; rfl), E.out⟩
          · skip
            by_cases hk : t.kids.length = 0
            · skip
              have hv := Lib.hid (show pat1 t.op t.n t.s t.t t.kids.length = true from by
                unfold pat1; simp [te, o17, a, b, hk])
              have hkn := Lib.hid (show GNode.patL t.kids = true from by rw [List.eq_nil_of_length_eq_zero hk]; rfl)
              have p17 : (t.op == 17) = true := by rw [o17]; rfl
              have r17 : (t.op != 17) = false := by rw [o17]; rfl
              have p18 : (t.op == 18) = false := by rw [o17]; rfl
              have r18 : (t.op != 18) = true := by rw [o17]; rfl
              have p19 : (t.op == 19) = false := by rw [o17]; rfl
              have r19 : (t.op != 19) = true := by rw [o17]; rfl
              have p20 : (t.op == 20) = false := by rw [o17]; rfl
              have r20 : (t.op != 20) = true := by rw [o17]; rfl
              clear o17
              have hk1 : (t.kids.length == 0) = true := by simp [hk]
              have hk2 : ((t.kids.length : Int) == 0) = true := by rw [beq_iff_eq]; omega
              have hk3 : ¬ (0 : Int) < (t.kids.length : Int) := by omega
              have hk4 : decide (0 < t.kids.length) = false := by simp [hk]
              have Hhk := Lib.hid hk
              clear hk
              go_enter Try.func252, Try.ntmps252
              go_wp2_with fail
              go_ret
              rw [← EQ.out]
              exact ⟨ret_bool (by rw [hte.out, hv.out, hkn.out]; rfl), E.out⟩
            · skip
              have hv := Lib.hid (show pat1 t.op t.n t.s t.t t.kids.length = false from by
                unfold pat1; simp [te, o17, a, b, hk])
              have p17 : (t.op == 17) = true := by rw [o17]; rfl
              have r17 : (t.op != 17) = false := by rw [o17]; rfl
              have p18 : (t.op == 18) = false := by rw [o17]; rfl
              have r18 : (t.op != 18) = true := by rw [o17]; rfl
              have p19 : (t.op == 19) = false := by rw [o17]; rfl
              have r19 : (t.op != 19) = true := by rw [o17]; rfl
              have p20 : (t.op == 20) = false := by rw [o17]; rfl
              have r20 : (t.op != 20) = true := by rw [o17]; rfl
              clear o17
              have hk1 : (t.kids.length == 0) = false := by simp [hk]
              have hk2 : ((t.kids.length : Int) == 0) = false := by rw [beq_eq_false_iff_ne]; omega
              have hk3 : (0 : Int) < (t.kids.length : Int) := by omega
              have hk4 : decide (0 < t.kids.length) = true := decide_eq_true (by omega)
              have Hhk := Lib.hid hk
              clear hk
              go_enter Try.func252, Try.ntmps252
              go_wp2_with fail
              go_ret
              rw [← EQ.out]
              exact ⟨ret_bool (by rw [hte.out, hv.out]; rfl), E.out⟩
      · skip
        by_cases o18 : t.op = 18
        · skip
          cases a : (t.n == 0)
          · skip
            have hv := Lib.hid (show pat1 t.op t.n t.s t.t t.kids.length = false from by
              unfold pat1; simp [te, o17, o18, a])
            have p17 : (t.op == 17) = false := by rw [o18]; rfl
            have r17 : (t.op != 17) = true := by rw [o18]; rfl
            have p18 : (t.op == 18) = true := by rw [o18]; rfl
            have r18 : (t.op != 18) = false := by rw [o18]; rfl
            have p19 : (t.op == 19) = false := by rw [o18]; rfl
            have r19 : (t.op != 19) = true := by rw [o18]; rfl
            have p20 : (t.op == 20) = false := by rw [o18]; rfl
            have r20 : (t.op != 20) = true := by rw [o18]; rfl
            clear o17
            clear o18
            go_enter Try.func252, Try.ntmps252
            go_wp2_with fail
            go_ret
            rw [← EQ.out]
            exact ⟨ret_bool (by rw [hte.out, hv.out]; rfl), E.out⟩
          · skip
            cases nb : (nameB t.s)
            · skip
              have hv := Lib.hid (show pat1 t.op t.n t.s t.t t.kids.length = false from by
                unfold pat1; simp [te, o17, o18, a, nb])
              have p17 : (t.op == 17) = false := by rw [o18]; rfl
              have r17 : (t.op != 17) = true := by rw [o18]; rfl
              have p18 : (t.op == 18) = true := by rw [o18]; rfl
              have r18 : (t.op != 18) = false := by rw [o18]; rfl
              have p19 : (t.op == 19) = false := by rw [o18]; rfl
              have r19 : (t.op != 19) = true := by rw [o18]; rfl
              have p20 : (t.op == 20) = false := by rw [o18]; rfl
              have r20 : (t.op != 20) = true := by rw [o18]; rfl
              clear o17
              clear o18
              have HNM := Lib.hid (fun (wx : World) => implNameOk t.s wx hsz2)
              rw [nb] at HNM
              clear nb
              go_enter Try.func252, Try.ntmps252
              go_wp2_with (first | (go_at_call 194; refine (HNM.out _).mono ?_; rintro e w9 ⟨rfl, hb9⟩; have B9 := Lib.hid hb9; have R9 := Lib.hid (R.out.below (show Below w0.heap.size w0 w9 from by rw [EQ.out]; exact hb9) R.out.lt); have hc9 := fun i => R9.out.cell i; clear hb9))
              go_ret
              exact ⟨ret_bool (by rw [hte.out, hv.out]; rfl), E.out.trans ((show Below w0.heap.size w0 w9 from by rw [EQ.out]; exact B9.out).mono E.out.size)⟩
            · skip
              by_cases hk : t.kids.length = 0
              · skip
                have hv := Lib.hid (show pat1 t.op t.n t.s t.t t.kids.length = true from by
                  unfold pat1; simp [te, o17, o18, a, nb, hk])
                have hkn := Lib.hid (show GNode.patL t.kids = true from by rw [List.eq_nil_of_length_eq_zero hk]; rfl)
                have p17 : (t.op == 17) = false := by rw [o18]; rfl
                have r17 : (t.op != 17) = true := by rw [o18]; rfl
                have p18 : (t.op == 18) = true := by rw [o18]; rfl
                have r18 : (t.op != 18) = false := by rw [o18]; rfl
                have p19 : (t.op == 19) = false := by rw [o18]; rfl
                have r19 : (t.op != 19) = true := by rw [o18]; rfl
                have p20 : (t.op == 20) = false := by rw [o18]; rfl
                have r20 : (t.op != 20) = true := by rw [o18]; rfl
                clear o17
                clear o18
                have hk1 : (t.kids.length == 0) = true := by simp [hk]
                have hk2 : ((t.kids.length : Int) == 0) = true := by rw [beq_iff_eq]; omega
                have hk3 : ¬ (0 : Int) < (t.kids.length : Int) := by omega
                have hk4 : decide (0 < t.kids.length) = false := by simp [hk]
                have Hhk := Lib.hid hk
                clear hk
                have HNM := Lib.hid (fun (wx : World) => implNameOk t.s wx hsz2)
                rw [nb] at HNM
                clear nb
                go_enter Try.func252, Try.ntmps252
                go_wp2_with (first | (go_at_call 194; refine (HNM.out _).mono ?_; rintro e w9 ⟨rfl, hb9⟩; have B9 := Lib.hid hb9; have R9 := Lib.hid (R.out.below (show Below w0.heap.size w0 w9 from by rw [EQ.out]; exact hb9) R.out.lt); have hc9 := fun i => R9.out.cell i; clear hb9))
                go_ret
                exact ⟨ret_bool (by rw [hte.out, hv.out, hkn.out]; rfl), E.out.trans ((show Below w0.heap.size w0 w9 from by rw [EQ.out]; exact B9.out).mono E.out.size)⟩
              · skip
                have hv := Lib.hid (show pat1 t.op t.n t.s t.t t.kids.length = false from by
                  unfold pat1; simp [te, o17, o18, a, nb, hk])
                have p17 : (t.op == 17) = false := by rw [o18]; rfl
                have r17 : (t.op != 17) = true := by rw [o18]; rfl
                have p18 : (t.op == 18) = true := by rw [o18]; rfl
                have r18 : (t.op != 18) = false := by rw [o18]; rfl
                have p19 : (t.op == 19) = false := by rw [o18]; rfl
                have r19 : (t.op != 19) = true := by rw [o18]; rfl
                have p20 : (t.op == 20) = false := by rw [o18]; rfl
                have r20 : (t.op != 20) = true := by rw [o18]; rfl
                clear o17
                clear o18
                have hk1 : (t.kids.length == 0) = false := by simp [hk]
                have hk2 : ((t.kids.length : Int) == 0) = false := by rw [beq_eq_false_iff_ne]; omega
                have hk3 : (0 : Int) < (t.kids.length : Int) := by omega
                have hk4 : decide (0 < t.kids.length) = true := decide_eq_true (by omega)
                have Hhk := Lib.hid hk
                clear hk
                have HNM := Lib.hid (fun (wx : World) => implNameOk t.s wx hsz2)
                rw [nb] at HNM
                clear nb
                go_enter Try.func252, Try.ntmps252
                go_wp2_with (first | (go_at_call 194; refine (HNM.out _).mono ?_; rintro e w9 ⟨rfl, hb9⟩; have B9 := Lib.hid hb9; have R9 := Lib.hid (R.out.below (show Below w0.heap.size w0 w9 from by rw [EQ.out]; exact hb9) R.out.lt); have hc9 := fun i => R9.out.cell i; clear hb9))
                go_ret
                exact ⟨ret_bool (by rw [hte.out, hv.out]; rfl), E.out.trans ((show Below w0.heap.size w0 w9 from by rw [EQ.out]; exact B9.out).mono E.out.size)⟩
        · skip
          by_cases o19 : t.op = 19
          · skip
            cases v : (inB t.n 0 1073741823)
            · skip
              have hv := Lib.hid (show pat1 t.op t.n t.s t.t t.kids.length = false from by
                unfold pat1; simp [te, o17, o18, o19, v])
              have p17 : (t.op == 17) = false := by rw [o19]; rfl
              have r17 : (t.op != 17) = true := by rw [o19]; rfl
              have p18 : (t.op == 18) = false := by rw [o19]; rfl
              have r18 : (t.op != 18) = true := by rw [o19]; rfl
              have p19 : (t.op == 19) = true := by rw [o19]; rfl
              have r19 : (t.op != 19) = false := by rw [o19]; rfl
              have p20 : (t.op == 20) = false := by rw [o19]; rfl
              have r20 : (t.op != 20) = true := by rw [o19]; rfl
              clear o17
              clear o18
              clear o19
              have HIN := Lib.hid (fun (wx : World) => implWithin t.n 0 1073741823 wx)
              rw [v] at HIN
              clear v
              go_enter Try.func252, Try.ntmps252
              go_wp2_with (first | (go_at_call 193; refine (HIN.out _).mono ?_; rintro e w9 ⟨rfl, rfl⟩))
              go_ret
              rw [← EQ.out]
              exact ⟨ret_bool (by rw [hte.out, hv.out]; rfl), E.out⟩
            · skip
              cases b : (t.s.toList.isEmpty)
              · skip
                have hv := Lib.hid (show pat1 t.op t.n t.s t.t t.kids.length = false from by
                  unfold pat1; simp [te, o17, o18, o19, v, b])
                have p17 : (t.op == 17) = false := by rw [o19]; rfl
                have r17 : (t.op != 17) = true := by rw [o19]; rfl
                have p18 : (t.op == 18) = false := by rw [o19]; rfl
                have r18 : (t.op != 18) = true := by rw [o19]; rfl
                have p19 : (t.op == 19) = true := by rw [o19]; rfl
                have r19 : (t.op != 19) = false := by rw [o19]; rfl
                have p20 : (t.op == 20) = false := by rw [o19]; rfl
                have r20 : (t.op != 20) = true := by rw [o19]; rfl
                clear o17
                clear o18
                clear o19
                have HIN := Lib.hid (fun (wx : World) => implWithin t.n 0 1073741823 wx)
                rw [v] at HIN
                clear v
                go_enter Try.func252, Try.ntmps252
                go_wp2_with (first | (go_at_call 193; refine (HIN.out _).mono ?_; rintro e w9 ⟨rfl, rfl⟩))
                go_ret
                rw [← EQ.out]
                exact ⟨ret_bool (by rw [hte.out, hv.out]; rfl), E.out⟩
              · skip
                by_cases hk : t.kids.length = 0
                · skip
                  have hv := Lib.hid (show pat1 t.op t.n t.s t.t t.kids.length = true from by
                    unfold pat1; simp [te, o17, o18, o19, v, b, hk])
                  have hkn := Lib.hid (show GNode.patL t.kids = true from by rw [List.eq_nil_of_length_eq_zero hk]; rfl)
                  have p17 : (t.op == 17) = false := by rw [o19]; rfl
                  have r17 : (t.op != 17) = true := by rw [o19]; rfl
                  have p18 : (t.op == 18) = false := by rw [o19]; rfl
                  have r18 : (t.op != 18) = true := by rw [o19]; rfl
                  have p19 : (t.op == 19) = true := by rw [o19]; rfl
                  have r19 : (t.op != 19) = false := by rw [o19]; rfl
                  have p20 : (t.op == 20) = false := by rw [o19]; rfl
                  have r20 : (t.op != 20) = true := by rw [o19]; rfl
                  clear o17
                  clear o18
                  clear o19
                  have hk1 : (t.kids.length == 0) = true := by simp [hk]
                  have hk2 : ((t.kids.length : Int) == 0) = true := by rw [beq_iff_eq]; omega
                  have hk3 : ¬ (0 : Int) < (t.kids.length : Int) := by omega
                  have hk4 : decide (0 < t.kids.length) = false := by simp [hk]
                  have Hhk := Lib.hid hk
                  clear hk
                  have HIN := Lib.hid (fun (wx : World) => implWithin t.n 0 1073741823 wx)
                  rw [v] at HIN
                  clear v
                  go_enter Try.func252, Try.ntmps252
                  go_wp2_with (first | (go_at_call 193; refine (HIN.out _).mono ?_; rintro e w9 ⟨rfl, rfl⟩))
                  go_ret
                  rw [← EQ.out]
                  exact ⟨ret_bool (by rw [hte.out, hv.out, hkn.out]; rfl), E.out⟩
                · skip
                  have hv := Lib.hid (show pat1 t.op t.n t.s t.t t.kids.length = false from by
                    unfold pat1; simp [te, o17, o18, o19, v, b, hk])
                  have p17 : (t.op == 17) = false := by rw [o19]; rfl
                  have r17 : (t.op != 17) = true := by rw [o19]; rfl
                  have p18 : (t.op == 18) = false := by rw [o19]; rfl
                  have r18 : (t.op != 18) = true := by rw [o19]; rfl
                  have p19 : (t.op == 19) = true := by rw [o19]; rfl
                  have r19 : (t.op != 19) = false := by rw [o19]; rfl
                  have p20 : (t.op == 20) = false := by rw [o19]; rfl
                  have r20 : (t.op != 20) = true := by rw [o19]; rfl
                  clear o17
                  clear o18
                  clear o19
                  have hk1 : (t.kids.length == 0) = false := by simp [hk]
                  have hk2 : ((t.kids.length : Int) == 0) = false := by rw [beq_eq_false_iff_ne]; omega
                  have hk3 : (0 : Int) < (t.kids.length : Int) := by omega
                  have hk4 : decide (0 < t.kids.length) = true := decide_eq_true (by omega)
                  have Hhk := Lib.hid hk
                  clear hk
                  have HIN := Lib.hid (fun (wx : World) => implWithin t.n 0 1073741823 wx)
                  rw [v] at HIN
                  clear v
                  go_enter Try.func252, Try.ntmps252
                  go_wp2_with (first | (go_at_call 193; refine (HIN.out _).mono ?_; rintro e w9 ⟨rfl, rfl⟩))
                  go_ret
                  rw [← EQ.out]
                  exact ⟨ret_bool (by rw [hte.out, hv.out]; rfl), E.out⟩
          · skip
            by_cases o20 : t.op = 20
            · skip
              cases a : (t.n == 0)
              · skip
                have hv := Lib.hid (show pat1 t.op t.n t.s t.t t.kids.length = false from by
                  unfold pat1; simp [te, o17, o18, o19, o20, a])
                have p17 : (t.op == 17) = false := by rw [o20]; rfl
                have r17 : (t.op != 17) = true := by rw [o20]; rfl
                have p18 : (t.op == 18) = false := by rw [o20]; rfl
                have r18 : (t.op != 18) = true := by rw [o20]; rfl
                have p19 : (t.op == 19) = false := by rw [o20]; rfl
                have r19 : (t.op != 19) = true := by rw [o20]; rfl
                have p20 : (t.op == 20) = true := by rw [o20]; rfl
                have r20 : (t.op != 20) = false := by rw [o20]; rfl
                clear o17
                clear o18
                clear o19
                clear o20
                go_enter Try.func252, Try.ntmps252
                go_wp2_with fail
                go_ret
                rw [← EQ.out]
                exact ⟨ret_bool (by rw [hte.out, hv.out]; rfl), E.out⟩
              · skip
                cases cn : (conB t.s)
                · skip
                  have hv := Lib.hid (show pat1 t.op t.n t.s t.t t.kids.length = false from by
                    unfold pat1; simp [te, o17, o18, o19, o20, a, cn])
                  have p17 : (t.op == 17) = false := by rw [o20]; rfl
                  have r17 : (t.op != 17) = true := by rw [o20]; rfl
                  have p18 : (t.op == 18) = false := by rw [o20]; rfl
                  have r18 : (t.op != 18) = true := by rw [o20]; rfl
                  have p19 : (t.op == 19) = false := by rw [o20]; rfl
                  have r19 : (t.op != 19) = true := by rw [o20]; rfl
                  have p20 : (t.op == 20) = true := by rw [o20]; rfl
                  have r20 : (t.op != 20) = false := by rw [o20]; rfl
                  clear o17
                  clear o18
                  clear o19
                  clear o20
                  have HCN := Lib.hid (fun (wx : World) => implConOk t.s wx hsz2)
                  rw [cn] at HCN
                  clear cn
                  go_enter Try.func252, Try.ntmps252
                  go_wp2_with (first | (go_at_call 195; refine (HCN.out _).mono ?_; rintro e w9 ⟨rfl, rfl⟩))
                  go_ret
                  rw [← EQ.out]
                  exact ⟨ret_bool (by rw [hte.out, hv.out]; rfl), E.out⟩
                · skip
                  have hv := Lib.hid (show pat1 t.op t.n t.s t.t t.kids.length = true from by
                    unfold pat1; simp [te, o17, o18, o19, o20, a, cn])
                  have p17 : (t.op == 17) = false := by rw [o20]; rfl
                  have r17 : (t.op != 17) = true := by rw [o20]; rfl
                  have p18 : (t.op == 18) = false := by rw [o20]; rfl
                  have r18 : (t.op != 18) = true := by rw [o20]; rfl
                  have p19 : (t.op == 19) = false := by rw [o20]; rfl
                  have r19 : (t.op != 19) = true := by rw [o20]; rfl
                  have p20 : (t.op == 20) = true := by rw [o20]; rfl
                  have r20 : (t.op != 20) = false := by rw [o20]; rfl
                  clear o17
                  clear o18
                  clear o19
                  clear o20
                  have HCN := Lib.hid (fun (wx : World) => implConOk t.s wx hsz2)
                  rw [cn] at HCN
                  clear cn
                  go_enter Try.func252, Try.ntmps252
                  go_wp2_with (first | (go_at_call 195; refine (HCN.out _).mono ?_; rintro e w9 ⟨rfl, rfl⟩))
                  rw [← EQ.out]
                  refine (implAllNodes 252 (enters Try.func252 (by kernel_rfl) (by kernel_rfl)) #[] GNode.pat t.kids A1 c1 w0 HS.out (fun x hx A2 c2 w2 hb2 hx2 => HH.out x hx A2 c2 w2 hb2 hx2)).mono ?_
                  rintro e w1 ⟨rfl, hb1⟩
                  go_wp2_with fail
                  go_ret
                  exact ⟨ret_bool (by rw [hte.out, hv.out, GNode.patL_all]; rfl), E.out.trans (hb1.mono E.out.size)⟩
            · skip
              have hv := Lib.hid (show pat1 t.op t.n t.s t.t t.kids.length = false from by
                unfold pat1; simp [te, o17, o18, o19, o20])
              have p17 : (t.op == 17) = false := by simpa using o17
              have r17 : (t.op != 17) = true := by simp [bne, p17]
              have p18 : (t.op == 18) = false := by simpa using o18
              have r18 : (t.op != 18) = true := by simp [bne, p18]
              have p19 : (t.op == 19) = false := by simpa using o19
              have r19 : (t.op != 19) = true := by simp [bne, p19]
              have p20 : (t.op == 20) = false := by simpa using o20
              have r20 : (t.op != 20) = true := by simp [bne, p20]
              clear o17
              clear o18
              clear o19
              clear o20
              go_enter Try.func252, Try.ntmps252
              go_wp2_with fail
              go_ret
              rw [← EQ.out]
              exact ⟨ret_bool (by rw [hte.out, hv.out]; rfl), E.out⟩

set_option maxRecDepth 20000 in
theorem specPatTidy (k : Nat) : ∀ (t : GNode) (A1 : Option Addr) (c1 : Nat) (w : World), t.bulk < k → GNode.At w (Lt w.heap.size) A1 c1 t →
    Calls Try.prog 244 #[.agg #[.int .i64 t.op, .int .i64 t.n, .string t.s, .string t.t, .slice A1 t.kids.length c1]] w fun e w' => e = .returned (.bool t.pat) ∧ Below w.heap.size w w' := by
  induction k with
  | zero => intro t A1 c1 w h; omega
  | succ k ih =>
    intro t A1 c1 w hk0 ht
    obtain ⟨h0, h1, h2, h3, hs⟩ := id ht
    have hsz2 : t.s.size ≤ 9223372036854775807 := by unfold maxLen at h2; omega
    have hlen : t.kids.length ≤ 9223372036854775807 := by simpa using hs.len
    have hte := Lib.hid t.pat_eq
    have hbe := t.bulk_eq
    go_enter Try.func244, Try.ntmps244
    go_wp2_with fail
    go_loopw [3] (fun i wr => ∃ j : Nat, j ≤ t.kids.length ∧ i = .int .i64 j ∧ Hid ((t.kids.take j).all GNode.pat = true) ∧ Hid (Below w.heap.size w wr) ∧ Hid (Row wr w.heap.size 49 #[.int .i64 t.op, .int .i64 t.n, .string t.s, .string t.t, .slice A1 t.kids.length c1])) (fun i _ => t.kids.length - (intOf i).toNat)
    case atStart => exact ⟨0, by omega, by go_num, Lib.hid (by simp), Lib.hid ((Below.refl _ _).alloc (Nat.le_refl _) _), Lib.hid (Row.new _ _ _)⟩
    case round =>
      obtain ⟨j, hj, rfl, Hall, hbl, R⟩ := hrel
      have hsz := hbl.out.size
      have hc := fun i => R.out.cell i
      by_cases hlt : j < t.kids.length
      · have htr := GNode.elem (hs.below hbl.out (Nat.le_refl _)) j hlt
        obtain ⟨b, off, A2, c2, rfl, hSb, g0, g1, g2, g3, g4, hat⟩ := htr
        have hmem : t.kids[j] ∈ t.kids := List.getElem_mem hlt
        have hxb : (t.kids[j]).bulk < k := by have := bulkL_mem GNode.bulk t.kids _ hmem; omega
        clear hbe
        go_wp2_with fail
        refine (ih _ A2 c2 _ hxb (hat.below (Below.refl _ _) hsz)).mono ?_
        rintro e w1 ⟨rfl, hb1⟩
        cases he : (t.kids[j]).pat
        · have hn := Lib.hid (show t.kids.all GNode.pat = false from by rw [← Bool.not_eq_true]; intro h; have := List.all_eq_true.1 h _ hmem; rw [he] at this; cases this)
          clear he
          go_wp2_with fail
          go_ret
          exact ⟨ret_bool (by rw [hte.out, GNode.patL_all, hn.out]; simp), hbl.out.trans (hb1.mono hsz)⟩
        · have he2 := Lib.hid he
          clear he
          go_wp2_with fail
          go_roundw
          case rel => exact ⟨j + 1, by omega, by go_num, Lib.hid (by rw [take_snoc' _ j hlt, List.all_append, Hall.out]; simp [he2.out]), Lib.hid (hbl.out.trans (hb1.mono hsz)), Lib.hid (R.out.below hb1 R.out.lt)⟩
          case measure => simp [intOf]; omega
      · have hjl : j = t.kids.length := by omega
        have hko := Lib.hid (show GNode.patL t.kids = true from by rw [GNode.patL_all]; have := Hall.out; rwa [hjl, List.take_length] at this)
        clear hjl ih hbe Hall h0 h1 h2 h3 hs ht
        cases te : (t.t.toList.isEmpty)
        · skip
          have hv := Lib.hid (show pat1 t.op t.n t.s t.t t.kids.length = false from by
            unfold pat1; simp [te])
          go_wp2_with fail
          go_ret
          exact ⟨ret_bool (by rw [hte.out, hv.out, hko.out]; rfl), hbl.out⟩
        · skip
          by_cases o17 : t.op = 17
          · skip
            by_cases hk : t.kids.length = 0
            · skip
              cases a : (t.n == 0)
              · skip
                have hv := Lib.hid (show pat1 t.op t.n t.s t.t t.kids.length = false from by
                  unfold pat1; simp [te, o17, hk, a])
                have p17 : (t.op == 17) = true := by rw [o17]; rfl
                have r17 : (t.op != 17) = false := by rw [o17]; rfl
                have p18 : (t.op == 18) = false := by rw [o17]; rfl
                have r18 : (t.op != 18) = true := by rw [o17]; rfl
                have p19 : (t.op == 19) = false := by rw [o17]; rfl
                have r19 : (t.op != 19) = true := by rw [o17]; rfl
                have p20 : (t.op == 20) = false := by rw [o17]; rfl
                have r20 : (t.op != 20) = true := by rw [o17]; rfl
                clear o17
                have hk1 : (t.kids.length == 0) = true := by simp [hk]
                have hk2 : ((t.kids.length : Int) == 0) = true := by rw [beq_iff_eq]; omega
                have hk3 : ¬ (0 : Int) < (t.kids.length : Int) := by omega
                have hk4 : decide (0 < t.kids.length) = false := by simp [hk]
                have Hhk := Lib.hid hk
                clear hk
                have an : (t.n != 0) = true := by simp only [bne, a]; rfl
                go_wp2_with fail
                go_ret
                exact ⟨ret_bool (by rw [hte.out, hv.out, hko.out]; rfl), hbl.out⟩
              · skip
                cases b : (t.s.toList.isEmpty)
                · skip
                  have hv := Lib.hid (show pat1 t.op t.n t.s t.t t.kids.length = false from by
                    unfold pat1; simp [te, o17, hk, a, b])
                  have p17 : (t.op == 17) = true := by rw [o17]; rfl
                  have r17 : (t.op != 17) = false := by rw [o17]; rfl
                  have p18 : (t.op == 18) = false := by rw [o17]; rfl
                  have r18 : (t.op != 18) = true := by rw [o17]; rfl
                  have p19 : (t.op == 19) = false := by rw [o17]; rfl
                  have r19 : (t.op != 19) = true := by rw [o17]; rfl
                  have p20 : (t.op == 20) = false := by rw [o17]; rfl
                  have r20 : (t.op != 20) = true := by rw [o17]; rfl
                  clear o17
                  have hk1 : (t.kids.length == 0) = true := by simp [hk]
                  have hk2 : ((t.kids.length : Int) == 0) = true := by rw [beq_iff_eq]; omega
                  have hk3 : ¬ (0 : Int) < (t.kids.length : Int) := by omega
                  have hk4 : decide (0 < t.kids.length) = false := by simp [hk]
                  have Hhk := Lib.hid hk
                  clear hk
                  have an : (t.n != 0) = false := by simp only [bne, a]; rfl
                  go_wp2_with fail
                  go_ret
                  exact ⟨ret_bool (by rw [hte.out, hv.out, hko.out]; rfl), hbl.out⟩
                · skip
                  have hv := Lib.hid (show pat1 t.op t.n t.s t.t t.kids.length = true from by
                    unfold pat1; simp [te, o17, hk, a, b])
                  have hkn := Lib.hid (show GNode.patL t.kids = true from by rw [List.eq_nil_of_length_eq_zero hk]; rfl)
                  have p17 : (t.op == 17) = true := by rw [o17]; rfl
                  have r17 : (t.op != 17) = false := by rw [o17]; rfl
                  have p18 : (t.op == 18) = false := by rw [o17]; rfl
                  have r18 : (t.op != 18) = true := by rw [o17]; rfl
                  have p19 : (t.op == 19) = false := by rw [o17]; rfl
                  have r19 : (t.op != 19) = true := by rw [o17]; rfl
                  have p20 : (t.op == 20) = false := by rw [o17]; rfl
                  have r20 : (t.op != 20) = true := by rw [o17]; rfl
                  clear o17
                  have hk1 : (t.kids.length == 0) = true := by simp [hk]
                  have hk2 : ((t.kids.length : Int) == 0) = true := by rw [beq_iff_eq]; omega
                  have hk3 : ¬ (0 : Int) < (t.kids.length : Int) := by omega
                  have hk4 : decide (0 < t.kids.length) = false := by simp [hk]
                  have Hhk := Lib.hid hk
                  clear hk
                  have an : (t.n != 0) = false := by simp only [bne, a]; rfl
                  go_wp2_with fail
                  go_ret
                  exact ⟨ret_bool (by rw [hte.out, hv.out, hko.out]; rfl), hbl.out⟩
            · skip
              have hv := Lib.hid (show pat1 t.op t.n t.s t.t t.kids.length = false from by
                unfold pat1; simp [te, o17, hk])
              have p17 : (t.op == 17) = true := by rw [o17]; rfl
              have r17 : (t.op != 17) = false := by rw [o17]; rfl
              have p18 : (t.op == 18) = false := by rw [o17]; rfl
              have r18 : (t.op != 18) = true := by rw [o17]; rfl
              have p19 : (t.op == 19) = false := by rw [o17]; rfl
              have r19 : (t.op != 19) = true := by rw [o17]; rfl
              have p20 : (t.op == 20) = false := by rw [o17]; rfl
              have r20 : (t.op != 20) = true := by rw [o17]; rfl
              clear o17
              have hk1 : (t.kids.length == 0) = false := by simp [hk]
              have hk2 : ((t.kids.length : Int) == 0) = false := by rw [beq_eq_false_iff_ne]; omega
              have hk3 : (0 : Int) < (t.kids.length : Int) := by omega
              have hk4 : decide (0 < t.kids.length) = true := decide_eq_true (by omega)
              have Hhk := Lib.hid hk
              clear hk
              go_wp2_with fail
              go_ret
              exact ⟨ret_bool (by rw [hte.out, hv.out, hko.out]; rfl), hbl.out⟩
          · skip
            by_cases o18 : t.op = 18
            · skip
              by_cases hk : t.kids.length = 0
              · skip
                cases a : (t.n == 0)
                · skip
                  have hv := Lib.hid (show pat1 t.op t.n t.s t.t t.kids.length = false from by
                    unfold pat1; simp [te, o17, o18, hk, a])
                  have p17 : (t.op == 17) = false := by rw [o18]; rfl
                  have r17 : (t.op != 17) = true := by rw [o18]; rfl
                  have p18 : (t.op == 18) = true := by rw [o18]; rfl
                  have r18 : (t.op != 18) = false := by rw [o18]; rfl
                  have p19 : (t.op == 19) = false := by rw [o18]; rfl
                  have r19 : (t.op != 19) = true := by rw [o18]; rfl
                  have p20 : (t.op == 20) = false := by rw [o18]; rfl
                  have r20 : (t.op != 20) = true := by rw [o18]; rfl
                  clear o17
                  clear o18
                  have hk1 : (t.kids.length == 0) = true := by simp [hk]
                  have hk2 : ((t.kids.length : Int) == 0) = true := by rw [beq_iff_eq]; omega
                  have hk3 : ¬ (0 : Int) < (t.kids.length : Int) := by omega
                  have hk4 : decide (0 < t.kids.length) = false := by simp [hk]
                  have Hhk := Lib.hid hk
                  clear hk
                  have an : (t.n != 0) = true := by simp only [bne, a]; rfl
                  go_wp2_with fail
                  go_ret
                  exact ⟨ret_bool (by rw [hte.out, hv.out, hko.out]; rfl), hbl.out⟩
                · skip
                  cases nb : (nameB t.s)
                  · skip
                    have hv := Lib.hid (show pat1 t.op t.n t.s t.t t.kids.length = false from by
                      unfold pat1; simp [te, o17, o18, hk, a, nb])
                    have p17 : (t.op == 17) = false := by rw [o18]; rfl
                    have r17 : (t.op != 17) = true := by rw [o18]; rfl
                    have p18 : (t.op == 18) = true := by rw [o18]; rfl
                    have r18 : (t.op != 18) = false := by rw [o18]; rfl
                    have p19 : (t.op == 19) = false := by rw [o18]; rfl
                    have r19 : (t.op != 19) = true := by rw [o18]; rfl
                    have p20 : (t.op == 20) = false := by rw [o18]; rfl
                    have r20 : (t.op != 20) = true := by rw [o18]; rfl
                    clear o17
                    clear o18
                    have hk1 : (t.kids.length == 0) = true := by simp [hk]
                    have hk2 : ((t.kids.length : Int) == 0) = true := by rw [beq_iff_eq]; omega
                    have hk3 : ¬ (0 : Int) < (t.kids.length : Int) := by omega
                    have hk4 : decide (0 < t.kids.length) = false := by simp [hk]
                    have Hhk := Lib.hid hk
                    clear hk
                    have an : (t.n != 0) = false := by simp only [bne, a]; rfl
                    have HNM := Lib.hid (fun (wx : World) => specName t.s wx hsz2)
                    rw [nb] at HNM
                    clear nb
                    go_wp2_with (first | (go_at_call 186; refine (HNM.out _).mono ?_; rintro e w9 ⟨rfl, hb9⟩; have B9 := Lib.hid hb9; have R9 := Lib.hid (R.out.below hb9 R.out.lt); have hc9 := fun i => R9.out.cell i; clear hb9))
                    go_ret
                    exact ⟨ret_bool (by rw [hte.out, hv.out, hko.out]; rfl), hbl.out.trans (B9.out.mono hsz)⟩
                  · skip
                    have hv := Lib.hid (show pat1 t.op t.n t.s t.t t.kids.length = true from by
                      unfold pat1; simp [te, o17, o18, hk, a, nb])
                    have hkn := Lib.hid (show GNode.patL t.kids = true from by rw [List.eq_nil_of_length_eq_zero hk]; rfl)
                    have p17 : (t.op == 17) = false := by rw [o18]; rfl
                    have r17 : (t.op != 17) = true := by rw [o18]; rfl
                    have p18 : (t.op == 18) = true := by rw [o18]; rfl
                    have r18 : (t.op != 18) = false := by rw [o18]; rfl
                    have p19 : (t.op == 19) = false := by rw [o18]; rfl
                    have r19 : (t.op != 19) = true := by rw [o18]; rfl
                    have p20 : (t.op == 20) = false := by rw [o18]; rfl
                    have r20 : (t.op != 20) = true := by rw [o18]; rfl
                    clear o17
                    clear o18
                    have hk1 : (t.kids.length == 0) = true := by simp [hk]
                    have hk2 : ((t.kids.length : Int) == 0) = true := by rw [beq_iff_eq]; omega
                    have hk3 : ¬ (0 : Int) < (t.kids.length : Int) := by omega
                    have hk4 : decide (0 < t.kids.length) = false := by simp [hk]
                    have Hhk := Lib.hid hk
                    clear hk
                    have an : (t.n != 0) = false := by simp only [bne, a]; rfl
                    have HNM := Lib.hid (fun (wx : World) => specName t.s wx hsz2)
                    rw [nb] at HNM
                    clear nb
                    go_wp2_with (first | (go_at_call 186; refine (HNM.out _).mono ?_; rintro e w9 ⟨rfl, hb9⟩; have B9 := Lib.hid hb9; have R9 := Lib.hid (R.out.below hb9 R.out.lt); have hc9 := fun i => R9.out.cell i; clear hb9))
                    go_ret
                    exact ⟨ret_bool (by rw [hte.out, hv.out, hko.out]; rfl), hbl.out.trans (B9.out.mono hsz)⟩
              · skip
                have hv := Lib.hid (show pat1 t.op t.n t.s t.t t.kids.length = false from by
                  unfold pat1; simp [te, o17, o18, hk])
                have p17 : (t.op == 17) = false := by rw [o18]; rfl
                have r17 : (t.op != 17) = true := by rw [o18]; rfl
                have p18 : (t.op == 18) = true := by rw [o18]; rfl
                have r18 : (t.op != 18) = false := by rw [o18]; rfl
                have p19 : (t.op == 19) = false := by rw [o18]; rfl
                have r19 : (t.op != 19) = true := by rw [o18]; rfl
                have p20 : (t.op == 20) = false := by rw [o18]; rfl
                have r20 : (t.op != 20) = true := by rw [o18]; rfl
                clear o17
                clear o18
                have hk1 : (t.kids.length == 0) = false := by simp [hk]
                have hk2 : ((t.kids.length : Int) == 0) = false := by rw [beq_eq_false_iff_ne]; omega
                have hk3 : (0 : Int) < (t.kids.length : Int) := by omega
                have hk4 : decide (0 < t.kids.length) = true := decide_eq_true (by omega)
                have Hhk := Lib.hid hk
                clear hk
                go_wp2_with fail
                go_ret
                exact ⟨ret_bool (by rw [hte.out, hv.out, hko.out]; rfl), hbl.out⟩
            · skip
              by_cases o19 : t.op = 19
              · skip
                by_cases hk : t.kids.length = 0
                · skip
                  cases b : (t.s.toList.isEmpty)
                  · skip
                    have hv := Lib.hid (show pat1 t.op t.n t.s t.t t.kids.length = false from by
                      unfold pat1; simp [te, o17, o18, o19, hk, b])
                    have p17 : (t.op == 17) = false := by rw [o19]; rfl
                    have r17 : (t.op != 17) = true := by rw [o19]; rfl
                    have p18 : (t.op == 18) = false := by rw [o19]; rfl
                    have r18 : (t.op != 18) = true := by rw [o19]; rfl
                    have p19 : (t.op == 19) = true := by rw [o19]; rfl
                    have r19 : (t.op != 19) = false := by rw [o19]; rfl
                    have p20 : (t.op == 20) = false := by rw [o19]; rfl
                    have r20 : (t.op != 20) = true := by rw [o19]; rfl
                    clear o17
                    clear o18
                    clear o19
                    have hk1 : (t.kids.length == 0) = true := by simp [hk]
                    have hk2 : ((t.kids.length : Int) == 0) = true := by rw [beq_iff_eq]; omega
                    have hk3 : ¬ (0 : Int) < (t.kids.length : Int) := by omega
                    have hk4 : decide (0 < t.kids.length) = false := by simp [hk]
                    have Hhk := Lib.hid hk
                    clear hk
                    go_wp2_with fail
                    go_ret
                    exact ⟨ret_bool (by rw [hte.out, hv.out, hko.out]; rfl), hbl.out⟩
                  · skip
                    cases v : (inB t.n 0 1073741823)
                    · skip
                      have hv := Lib.hid (show pat1 t.op t.n t.s t.t t.kids.length = false from by
                        unfold pat1; simp [te, o17, o18, o19, hk, b, v])
                      have p17 : (t.op == 17) = false := by rw [o19]; rfl
                      have r17 : (t.op != 17) = true := by rw [o19]; rfl
                      have p18 : (t.op == 18) = false := by rw [o19]; rfl
                      have r18 : (t.op != 18) = true := by rw [o19]; rfl
                      have p19 : (t.op == 19) = true := by rw [o19]; rfl
                      have r19 : (t.op != 19) = false := by rw [o19]; rfl
                      have p20 : (t.op == 20) = false := by rw [o19]; rfl
                      have r20 : (t.op != 20) = true := by rw [o19]; rfl
                      clear o17
                      clear o18
                      clear o19
                      have hk1 : (t.kids.length == 0) = true := by simp [hk]
                      have hk2 : ((t.kids.length : Int) == 0) = true := by rw [beq_iff_eq]; omega
                      have hk3 : ¬ (0 : Int) < (t.kids.length : Int) := by omega
                      have hk4 : decide (0 < t.kids.length) = false := by simp [hk]
                      have Hhk := Lib.hid hk
                      clear hk
                      have HIN := Lib.hid (fun (wx : World) => specIn t.n 0 1073741823 wx)
                      rw [v] at HIN
                      clear v
                      go_wp2_with (first | (go_at_call 99; refine (HIN.out _).mono ?_; rintro e w9 ⟨rfl, rfl⟩))
                      go_ret
                      exact ⟨ret_bool (by rw [hte.out, hv.out, hko.out]; rfl), hbl.out⟩
                    · skip
                      have hv := Lib.hid (show pat1 t.op t.n t.s t.t t.kids.length = true from by
                        unfold pat1; simp [te, o17, o18, o19, hk, b, v])
                      have hkn := Lib.hid (show GNode.patL t.kids = true from by rw [List.eq_nil_of_length_eq_zero hk]; rfl)
                      have p17 : (t.op == 17) = false := by rw [o19]; rfl
                      have r17 : (t.op != 17) = true := by rw [o19]; rfl
                      have p18 : (t.op == 18) = false := by rw [o19]; rfl
                      have r18 : (t.op != 18) = true := by rw [o19]; rfl
                      have p19 : (t.op == 19) = true := by rw [o19]; rfl
                      have r19 : (t.op != 19) = false := by rw [o19]; rfl
                      have p20 : (t.op == 20) = false := by rw [o19]; rfl
                      have r20 : (t.op != 20) = true := by rw [o19]; rfl
                      clear o17
                      clear o18
                      clear o19
                      have hk1 : (t.kids.length == 0) = true := by simp [hk]
                      have hk2 : ((t.kids.length : Int) == 0) = true := by rw [beq_iff_eq]; omega
                      have hk3 : ¬ (0 : Int) < (t.kids.length : Int) := by omega
                      have hk4 : decide (0 < t.kids.length) = false := by simp [hk]
                      have Hhk := Lib.hid hk
                      clear hk
                      have HIN := Lib.hid (fun (wx : World) => specIn t.n 0 1073741823 wx)
                      rw [v] at HIN
                      clear v
                      go_wp2_with (first | (go_at_call 99; refine (HIN.out _).mono ?_; rintro e w9 ⟨rfl, rfl⟩))
                      go_ret
                      exact ⟨ret_bool (by rw [hte.out, hv.out, hko.out]; rfl), hbl.out⟩
                · skip
                  have hv := Lib.hid (show pat1 t.op t.n t.s t.t t.kids.length = false from by
                    unfold pat1; simp [te, o17, o18, o19, hk])
                  have p17 : (t.op == 17) = false := by rw [o19]; rfl
                  have r17 : (t.op != 17) = true := by rw [o19]; rfl
                  have p18 : (t.op == 18) = false := by rw [o19]; rfl
                  have r18 : (t.op != 18) = true := by rw [o19]; rfl
                  have p19 : (t.op == 19) = true := by rw [o19]; rfl
                  have r19 : (t.op != 19) = false := by rw [o19]; rfl
                  have p20 : (t.op == 20) = false := by rw [o19]; rfl
                  have r20 : (t.op != 20) = true := by rw [o19]; rfl
                  clear o17
                  clear o18
                  clear o19
                  have hk1 : (t.kids.length == 0) = false := by simp [hk]
                  have hk2 : ((t.kids.length : Int) == 0) = false := by rw [beq_eq_false_iff_ne]; omega
                  have hk3 : (0 : Int) < (t.kids.length : Int) := by omega
                  have hk4 : decide (0 < t.kids.length) = true := decide_eq_true (by omega)
                  have Hhk := Lib.hid hk
                  clear hk
                  go_wp2_with fail
                  go_ret
                  exact ⟨ret_bool (by rw [hte.out, hv.out, hko.out]; rfl), hbl.out⟩
              · skip
                by_cases o20 : t.op = 20
                · skip
                  cases a : (t.n == 0)
                  · skip
                    have hv := Lib.hid (show pat1 t.op t.n t.s t.t t.kids.length = false from by
                      unfold pat1; simp [te, o17, o18, o19, o20, a])
                    have p17 : (t.op == 17) = false := by rw [o20]; rfl
                    have r17 : (t.op != 17) = true := by rw [o20]; rfl
                    have p18 : (t.op == 18) = false := by rw [o20]; rfl
                    have r18 : (t.op != 18) = true := by rw [o20]; rfl
                    have p19 : (t.op == 19) = false := by rw [o20]; rfl
                    have r19 : (t.op != 19) = true := by rw [o20]; rfl
                    have p20 : (t.op == 20) = true := by rw [o20]; rfl
                    have r20 : (t.op != 20) = false := by rw [o20]; rfl
                    clear o17
                    clear o18
                    clear o19
                    clear o20
                    have an : (t.n != 0) = true := by simp only [bne, a]; rfl
                    go_wp2_with fail
                    go_ret
                    exact ⟨ret_bool (by rw [hte.out, hv.out, hko.out]; rfl), hbl.out⟩
                  · skip
                    cases cn : (conB t.s)
                    · skip
                      have hv := Lib.hid (show pat1 t.op t.n t.s t.t t.kids.length = false from by
                        unfold pat1; simp [te, o17, o18, o19, o20, a, cn])
                      have p17 : (t.op == 17) = false := by rw [o20]; rfl
                      have r17 : (t.op != 17) = true := by rw [o20]; rfl
                      have p18 : (t.op == 18) = false := by rw [o20]; rfl
                      have r18 : (t.op != 18) = true := by rw [o20]; rfl
                      have p19 : (t.op == 19) = false := by rw [o20]; rfl
                      have r19 : (t.op != 19) = true := by rw [o20]; rfl
                      have p20 : (t.op == 20) = true := by rw [o20]; rfl
                      have r20 : (t.op != 20) = false := by rw [o20]; rfl
                      clear o17
                      clear o18
                      clear o19
                      clear o20
                      have an : (t.n != 0) = false := by simp only [bne, a]; rfl
                      have HCN := Lib.hid (fun (wx : World) => specCon t.s wx hsz2)
                      rw [cn] at HCN
                      clear cn
                      go_wp2_with (first | (go_at_call 98; refine (HCN.out _).mono ?_; rintro e w9 ⟨rfl, rfl⟩))
                      go_ret
                      exact ⟨ret_bool (by rw [hte.out, hv.out, hko.out]; rfl), hbl.out⟩
                    · skip
                      have hv := Lib.hid (show pat1 t.op t.n t.s t.t t.kids.length = true from by
                        unfold pat1; simp [te, o17, o18, o19, o20, a, cn])
                      have p17 : (t.op == 17) = false := by rw [o20]; rfl
                      have r17 : (t.op != 17) = true := by rw [o20]; rfl
                      have p18 : (t.op == 18) = false := by rw [o20]; rfl
                      have r18 : (t.op != 18) = true := by rw [o20]; rfl
                      have p19 : (t.op == 19) = false := by rw [o20]; rfl
                      have r19 : (t.op != 19) = true := by rw [o20]; rfl
                      have p20 : (t.op == 20) = true := by rw [o20]; rfl
                      have r20 : (t.op != 20) = false := by rw [o20]; rfl
                      clear o17
                      clear o18
                      clear o19
                      clear o20
                      have an : (t.n != 0) = false := by simp only [bne, a]; rfl
                      have HCN := Lib.hid (fun (wx : World) => specCon t.s wx hsz2)
                      rw [cn] at HCN
                      clear cn
                      go_wp2_with (first | (go_at_call 98; refine (HCN.out _).mono ?_; rintro e w9 ⟨rfl, rfl⟩))
                      go_ret
                      exact ⟨ret_bool (by rw [hte.out, hv.out, hko.out]; rfl), hbl.out⟩
                · skip
                  by_cases hk : t.kids.length = 0
                  · skip
                    cases a : (t.n == 0)
                    · skip
                      have hv := Lib.hid (show pat1 t.op t.n t.s t.t t.kids.length = false from by
                        unfold pat1; simp [te, o17, o18, o19, o20, hk, a])
                      have p17 : (t.op == 17) = false := by simpa using o17
                      have r17 : (t.op != 17) = true := by simp [bne, p17]
                      have p18 : (t.op == 18) = false := by simpa using o18
                      have r18 : (t.op != 18) = true := by simp [bne, p18]
                      have p19 : (t.op == 19) = false := by simpa using o19
                      have r19 : (t.op != 19) = true := by simp [bne, p19]
                      have p20 : (t.op == 20) = false := by simpa using o20
                      have r20 : (t.op != 20) = true := by simp [bne, p20]
                      clear o17
                      clear o18
                      clear o19
                      clear o20
                      have hk1 : (t.kids.length == 0) = true := by simp [hk]
                      have hk2 : ((t.kids.length : Int) == 0) = true := by rw [beq_iff_eq]; omega
                      have hk3 : ¬ (0 : Int) < (t.kids.length : Int) := by omega
                      have hk4 : decide (0 < t.kids.length) = false := by simp [hk]
                      have Hhk := Lib.hid hk
                      clear hk
                      have an : (t.n != 0) = true := by simp only [bne, a]; rfl
                      go_wp2_with fail
                      go_ret
                      exact ⟨ret_bool (by rw [hte.out, hv.out, hko.out]; rfl), hbl.out⟩
                    · skip
                      have hv := Lib.hid (show pat1 t.op t.n t.s t.t t.kids.length = false from by
                        unfold pat1; simp [te, o17, o18, o19, o20, hk, a])
                      have p17 : (t.op == 17) = false := by simpa using o17
                      have r17 : (t.op != 17) = true := by simp [bne, p17]
                      have p18 : (t.op == 18) = false := by simpa using o18
                      have r18 : (t.op != 18) = true := by simp [bne, p18]
                      have p19 : (t.op == 19) = false := by simpa using o19
                      have r19 : (t.op != 19) = true := by simp [bne, p19]
                      have p20 : (t.op == 20) = false := by simpa using o20
                      have r20 : (t.op != 20) = true := by simp [bne, p20]
                      clear o17
                      clear o18
                      clear o19
                      clear o20
                      have hk1 : (t.kids.length == 0) = true := by simp [hk]
                      have hk2 : ((t.kids.length : Int) == 0) = true := by rw [beq_iff_eq]; omega
                      have hk3 : ¬ (0 : Int) < (t.kids.length : Int) := by omega
                      have hk4 : decide (0 < t.kids.length) = false := by simp [hk]
                      have Hhk := Lib.hid hk
                      clear hk
                      have an : (t.n != 0) = false := by simp only [bne, a]; rfl
                      go_wp2_with fail
                      go_ret
                      exact ⟨ret_bool (by rw [hte.out, hv.out, hko.out]; rfl), hbl.out⟩
                  · skip
                    have hv := Lib.hid (show pat1 t.op t.n t.s t.t t.kids.length = false from by
                      unfold pat1; simp [te, o17, o18, o19, o20, hk])
                    have p17 : (t.op == 17) = false := by simpa using o17
                    have r17 : (t.op != 17) = true := by simp [bne, p17]
                    have p18 : (t.op == 18) = false := by simpa using o18
                    have r18 : (t.op != 18) = true := by simp [bne, p18]
                    have p19 : (t.op == 19) = false := by simpa using o19
                    have r19 : (t.op != 19) = true := by simp [bne, p19]
                    have p20 : (t.op == 20) = false := by simpa using o20
                    have r20 : (t.op != 20) = true := by simp [bne, p20]
                    clear o17
                    clear o18
                    clear o19
                    clear o20
                    have hk1 : (t.kids.length == 0) = false := by simp [hk]
                    have hk2 : ((t.kids.length : Int) == 0) = false := by rw [beq_eq_false_iff_ne]; omega
                    have hk3 : (0 : Int) < (t.kids.length : Int) := by omega
                    have hk4 : decide (0 < t.kids.length) = true := decide_eq_true (by omega)
                    have Hhk := Lib.hid hk
                    clear hk
                    go_wp2_with fail
                    go_ret
                    exact ⟨ret_bool (by rw [hte.out, hv.out, hko.out]; rfl), hbl.out⟩

end Go.Proofs.Ytgbcdfeflgnogaa
