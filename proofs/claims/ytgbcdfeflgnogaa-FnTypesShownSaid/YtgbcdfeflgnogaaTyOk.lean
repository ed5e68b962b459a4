/- TyOk. Conditions: none but a bound on the size. -/
import Derived.Test.YtgbcdfeflgnogaaTySize
import Derived.Test.YtgbcdfeflgnogaaFTy
namespace Go.Proofs.Ytgbcdfeflgnogaa
open Go.RowKit
set_option linter.unusedVariables false
set_option linter.unusedSimpArgs false
set_option maxHeartbeats 1000000

/-- is one type right by itself, with so many kids? -/
def tyOk1 (op n : Int) (s : ByteArray) (k : Nat) : Bool :=
  if op = 1 then n == 0 && (s.toList.isEmpty && k == 0)
  else if op = 2 then decide (0 ≤ n) && (s.toList.isEmpty && k == 0)
  else if op = 3 then n == 0 && (s.toList.isEmpty && k == 2)
  else if op = 4 then n == 0 && !s.toList.isEmpty else false

mutual
/-- is a type right, whatever its size? -/
def GTy.okS : GTy → Bool | .mk op n s kids => tyOk1 op n s kids.length && GTy.okSL kids
def GTy.okSL : List GTy → Bool | [] => true | t :: r => t.okS && GTy.okSL r
end

theorem GTy.okS_eq (t : GTy) : t.okS = (tyOk1 t.op t.n t.s t.kids.length && GTy.okSL t.kids) := by
  cases t; simp only [GTy.okS, GTy.op, GTy.n, GTy.s, GTy.kids]
theorem GTy.okSL_all : ∀ l : List GTy, GTy.okSL l = l.all GTy.okS
  | [] => rfl
  | t :: r => by simp only [GTy.okSL, List.all_cons, GTy.okSL_all r]
theorem GTy.okSL_any (l : List GTy) : GTy.okSL l = !(l.any fun t => !t.okS) := by
  rw [GTy.okSL_all]; induction l with
  | nil => rfl
  | cons t r ih => simp only [List.all_cons, List.any_cons, ih, Bool.not_or, Bool.not_not]

/-- TyOk -/
def GTy.ok (t : GTy) : Bool := decide (t.nodes ≤ 200) && t.okS

theorem implTyShape (k : Nat) : ∀ (t : GTy) (A1 : Option Addr) (c1 : Nat) (w : World), t.bulk < k → GTy.At w (Lt w.heap.size) A1 c1 t →
    Calls Try.prog 119 #[.agg #[.int .i64 t.op, .int .i64 t.n, .string t.s, .slice A1 t.kids.length c1]] w fun e w' => e = .returned (.bool t.okS) ∧ Below w.heap.size w w' := by
  induction k with
  | zero => intro t A1 c1 w h; omega
  | succ k ih =>
    intro t A1 c1 w hk0 ht
    obtain ⟨h0, h1, h2, hs⟩ := id ht
    have hlen : t.kids.length ≤ 9223372036854775807 := by simpa using hs.len
    have hte := Lib.hid t.okS_eq
    have hbe := t.bulk_eq
    have E : Below w.heap.size w (w.alloc (.cells #[.int .i64 t.op, .int .i64 t.n, .string t.s, .slice A1 t.kids.length c1] 59)) := (Below.refl _ _).alloc (Nat.le_refl _) _
    -- the literal that asks a kid
    have HC : ∀ x, x ∈ t.kids → ∀ (A1 : Option Addr) (c1 : Nat) (w2 : World), GTy.At w2 (Lt w2.heap.size) A1 c1 x →
        Calls Try.prog 206 #[.agg #[.int .i64 x.op, .int .i64 x.n, .string x.s, .slice A1 x.kids.length c1]] w2 fun e w' => e = .returned (.bool (!x.okS)) ∧ Below w2.heap.size w2 w' := by
      intro x hx A1 c1 w2 hx2
      have hxb : x.bulk < k := by have := bulkL_mem GTy.bulk t.kids x hx; omega
      have E2 : Below w2.heap.size w2 (w2.alloc (.cells #[.int .i64 x.op, .int .i64 x.n, .string x.s, .slice A1 x.kids.length c1] 59)) := (Below.refl _ _).alloc (Nat.le_refl _) _
      clear hbe h0 h1 h2 hs ht hlen
      go_enter Try.func206, Try.ntmps206
      go_wp2_with fail
      refine (ih x A1 c1 _ hxb (hx2.below E2 E2.size)).mono ?_
      rintro e w3 ⟨rfl, hb3⟩
      go_wp2_with fail
      go_ret
      exact ⟨rfl, E2.trans (hb3.mono E2.size)⟩
    have HH := Lib.hid HC
    clear HC ih hbe
    cases o1 : (t.op == 1)
    · skip
      cases o2 : (t.op == 2)
      · skip
        cases o3 : (t.op == 3)
        · skip
          cases o4 : (t.op == 4)
          · skip
            have hv := Lib.hid (show tyOk1 t.op t.n t.s t.kids.length = false from by
              unfold tyOk1; simp only [beq_iff_eq, beq_eq_false_iff_ne, ne_eq] at o1 o2 o3 o4; simp [o1, o2, o3, o4])
            go_enter Try.func119, Try.ntmps119
            go_wp2_with fail
            go_ret
            exact ⟨ret_bool (by rw [hte.out, hv.out]; rfl), E⟩
          · skip
            cases a : (t.n == 0)
            · skip
              have hv := Lib.hid (show tyOk1 t.op t.n t.s t.kids.length = false from by
                unfold tyOk1; simp only [beq_iff_eq, beq_eq_false_iff_ne, ne_eq] at o1 o2 o3 o4 a; simp [o1, o2, o3, o4, a])
              go_enter Try.func119, Try.ntmps119
              go_wp2_with fail
              go_ret
              exact ⟨ret_bool (by rw [hte.out, hv.out]; rfl), E⟩
            · skip
              cases b : (t.s.toList.isEmpty)
              · skip
                have hv := Lib.hid (show tyOk1 t.op t.n t.s t.kids.length = true from by
                  unfold tyOk1; simp only [beq_iff_eq, beq_eq_false_iff_ne, ne_eq] at o1 o2 o3 o4 a b; simp [o1, o2, o3, o4, a, b])
                go_enter Try.func119, Try.ntmps119
                go_wp2_with fail
                refine (containsFuncTy 206 (enters Try.func206 (by kernel_rfl) (by kernel_rfl)) #[] (fun x => !x.okS) t.kids A1 c1 _ (hs.below E E.size) (fun x hx A2 c2 w2 _ hx2 => HH.out x hx A2 c2 w2 hx2)).mono ?_
                rintro e w1 ⟨rfl, hb1⟩
                go_wp2_with fail
                go_ret
                exact ⟨ret_bool (by rw [hte.out, hv.out, GTy.okSL_any]; rfl), E.trans (hb1.mono E.size)⟩
              · skip
                have hv := Lib.hid (show tyOk1 t.op t.n t.s t.kids.length = false from by
                  unfold tyOk1; simp only [beq_iff_eq, beq_eq_false_iff_ne, ne_eq] at o1 o2 o3 o4 a b; simp [o1, o2, o3, o4, a, b])
                go_enter Try.func119, Try.ntmps119
                go_wp2_with fail
                go_ret
                exact ⟨ret_bool (by rw [hte.out, hv.out]; rfl), E⟩
        · skip
          cases a : (t.n == 0)
          · skip
            have hv := Lib.hid (show tyOk1 t.op t.n t.s t.kids.length = false from by
              unfold tyOk1; simp only [beq_iff_eq, beq_eq_false_iff_ne, ne_eq] at o1 o2 o3 a; simp [o1, o2, o3, a])
            go_enter Try.func119, Try.ntmps119
            go_wp2_with fail
            go_ret
            exact ⟨ret_bool (by rw [hte.out, hv.out]; rfl), E⟩
          · skip
            cases b : (t.s.toList.isEmpty)
            · skip
              have hv := Lib.hid (show tyOk1 t.op t.n t.s t.kids.length = false from by
                unfold tyOk1; simp only [beq_iff_eq, beq_eq_false_iff_ne, ne_eq] at o1 o2 o3 a b; simp [o1, o2, o3, a, b])
              go_enter Try.func119, Try.ntmps119
              go_wp2_with fail
              go_ret
              exact ⟨ret_bool (by rw [hte.out, hv.out]; rfl), E⟩
            · skip
              by_cases hk : t.kids.length = 2
              · have hk1 : (t.kids.length == 2) = true := by simp [hk]
                have hk2 : ((t.kids.length : Int) == 2) = true := by rw [beq_iff_eq]; omega
                have hv := Lib.hid (show tyOk1 t.op t.n t.s t.kids.length = true from by
                  unfold tyOk1; simp only [beq_iff_eq, beq_eq_false_iff_ne, ne_eq] at o1 o2 o3 a b; simp [o1, o2, o3, a, b, hk])
                have Hk := Lib.hid hk
                clear hk
                go_enter Try.func119, Try.ntmps119
                go_wp2_with fail
                refine (containsFuncTy 206 (enters Try.func206 (by kernel_rfl) (by kernel_rfl)) #[] (fun x => !x.okS) t.kids A1 c1 _ (hs.below E E.size) (fun x hx A2 c2 w2 _ hx2 => HH.out x hx A2 c2 w2 hx2)).mono ?_
                rintro e w1 ⟨rfl, hb1⟩
                go_wp2_with fail
                go_ret
                exact ⟨ret_bool (by rw [hte.out, hv.out, GTy.okSL_any]; rfl), E.trans (hb1.mono E.size)⟩
              · have hk1 : (t.kids.length == 2) = false := by simp [hk]
                have hk2 : ((t.kids.length : Int) == 2) = false := by rw [beq_eq_false_iff_ne]; omega
                have hv := Lib.hid (show tyOk1 t.op t.n t.s t.kids.length = false from by
                  unfold tyOk1; simp only [beq_iff_eq, beq_eq_false_iff_ne, ne_eq] at o1 o2 o3 a b; simp [o1, o2, o3, a, b, hk])
                have Hk := Lib.hid hk
                clear hk
                go_enter Try.func119, Try.ntmps119
                go_wp2_with fail
                go_ret
                exact ⟨ret_bool (by rw [hte.out, hv.out]; rfl), E⟩
      · skip
        by_cases a : 0 ≤ t.n
        · skip
          cases b : (t.s.toList.isEmpty)
          · skip
            have hv := Lib.hid (show tyOk1 t.op t.n t.s t.kids.length = false from by
              unfold tyOk1; simp only [beq_iff_eq, beq_eq_false_iff_ne, ne_eq] at o1 o2 b; simp [o1, o2, a, b])
            go_enter Try.func119, Try.ntmps119
            go_wp2_with fail
            go_ret
            exact ⟨ret_bool (by rw [hte.out, hv.out]; rfl), E⟩
          · skip
            by_cases hk : t.kids.length = 0
            · have hk1 : (t.kids.length == 0) = true := by simp [hk]
              have hk2 : ((t.kids.length : Int) == 0) = true := by rw [beq_iff_eq]; omega
              have hv := Lib.hid (show tyOk1 t.op t.n t.s t.kids.length = true from by
                unfold tyOk1; simp only [beq_iff_eq, beq_eq_false_iff_ne, ne_eq] at o1 o2 b; simp [o1, o2, a, b, hk])
              have Hk := Lib.hid hk
              clear hk
              go_enter Try.func119, Try.ntmps119
              go_wp2_with fail
              refine (containsFuncTy 206 (enters Try.func206 (by kernel_rfl) (by kernel_rfl)) #[] (fun x => !x.okS) t.kids A1 c1 _ (hs.below E E.size) (fun x hx A2 c2 w2 _ hx2 => HH.out x hx A2 c2 w2 hx2)).mono ?_
              rintro e w1 ⟨rfl, hb1⟩
              go_wp2_with fail
              go_ret
              exact ⟨ret_bool (by rw [hte.out, hv.out, GTy.okSL_any]; rfl), E.trans (hb1.mono E.size)⟩
            · have hk1 : (t.kids.length == 0) = false := by simp [hk]
              have hk2 : ((t.kids.length : Int) == 0) = false := by rw [beq_eq_false_iff_ne]; omega
              have hv := Lib.hid (show tyOk1 t.op t.n t.s t.kids.length = false from by
                unfold tyOk1; simp only [beq_iff_eq, beq_eq_false_iff_ne, ne_eq] at o1 o2 b; simp [o1, o2, a, b, hk])
              have Hk := Lib.hid hk
              clear hk
              go_enter Try.func119, Try.ntmps119
              go_wp2_with fail
              go_ret
              exact ⟨ret_bool (by rw [hte.out, hv.out]; rfl), E⟩
        · skip
          have hv := Lib.hid (show tyOk1 t.op t.n t.s t.kids.length = false from by
            unfold tyOk1; simp only [beq_iff_eq, beq_eq_false_iff_ne, ne_eq] at o1 o2; simp [o1, o2, a])
          go_enter Try.func119, Try.ntmps119
          go_wp2_with fail
          go_ret
          exact ⟨ret_bool (by rw [hte.out, hv.out]; rfl), E⟩
    · skip
      cases a : (t.n == 0)
      · skip
        have hv := Lib.hid (show tyOk1 t.op t.n t.s t.kids.length = false from by
          unfold tyOk1; simp only [beq_iff_eq, beq_eq_false_iff_ne, ne_eq] at o1 a; simp [o1, a])
        go_enter Try.func119, Try.ntmps119
        go_wp2_with fail
        go_ret
        exact ⟨ret_bool (by rw [hte.out, hv.out]; rfl), E⟩
      · skip
        cases b : (t.s.toList.isEmpty)
        · skip
          have hv := Lib.hid (show tyOk1 t.op t.n t.s t.kids.length = false from by
            unfold tyOk1; simp only [beq_iff_eq, beq_eq_false_iff_ne, ne_eq] at o1 a b; simp [o1, a, b])
          go_enter Try.func119, Try.ntmps119
          go_wp2_with fail
          go_ret
          exact ⟨ret_bool (by rw [hte.out, hv.out]; rfl), E⟩
        · skip
          by_cases hk : t.kids.length = 0
          · have hk1 : (t.kids.length == 0) = true := by simp [hk]
            have hk2 : ((t.kids.length : Int) == 0) = true := by rw [beq_iff_eq]; omega
            have hv := Lib.hid (show tyOk1 t.op t.n t.s t.kids.length = true from by
              unfold tyOk1; simp only [beq_iff_eq, beq_eq_false_iff_ne, ne_eq] at o1 a b; simp [o1, a, b, hk])
            have Hk := Lib.hid hk
            clear hk
            go_enter Try.func119, Try.ntmps119
            go_wp2_with fail
            refine (containsFuncTy 206 (enters Try.func206 (by kernel_rfl) (by kernel_rfl)) #[] (fun x => !x.okS) t.kids A1 c1 _ (hs.below E E.size) (fun x hx A2 c2 w2 _ hx2 => HH.out x hx A2 c2 w2 hx2)).mono ?_
            rintro e w1 ⟨rfl, hb1⟩
            go_wp2_with fail
            go_ret
            exact ⟨ret_bool (by rw [hte.out, hv.out, GTy.okSL_any]; rfl), E.trans (hb1.mono E.size)⟩
          · have hk1 : (t.kids.length == 0) = false := by simp [hk]
            have hk2 : ((t.kids.length : Int) == 0) = false := by rw [beq_eq_false_iff_ne]; omega
            have hv := Lib.hid (show tyOk1 t.op t.n t.s t.kids.length = false from by
              unfold tyOk1; simp only [beq_iff_eq, beq_eq_false_iff_ne, ne_eq] at o1 a b; simp [o1, a, b, hk])
            have Hk := Lib.hid hk
            clear hk
            go_enter Try.func119, Try.ntmps119
            go_wp2_with fail
            go_ret
            exact ⟨ret_bool (by rw [hte.out, hv.out]; rfl), E⟩

theorem specTyShape (k : Nat) : ∀ (t : GTy) (A1 : Option Addr) (c1 : Nat) (w : World), t.bulk < k → GTy.At w (Lt w.heap.size) A1 c1 t →
    Calls Try.prog 133 #[.agg #[.int .i64 t.op, .int .i64 t.n, .string t.s, .slice A1 t.kids.length c1]] w fun e w' => e = .returned (.bool t.okS) ∧ Below w.heap.size w w' := by
  induction k with
  | zero => intro t A1 c1 w h; omega
  | succ k ih =>
    intro t A1 c1 w hk0 ht
    obtain ⟨h0, h1, h2, hs⟩ := id ht
    have hlen : t.kids.length ≤ 9223372036854775807 := by simpa using hs.len
    have hte := Lib.hid t.okS_eq
    have hbe := t.bulk_eq
    go_enter Try.func133, Try.ntmps133
    go_wp2_with fail
    go_loopw [3] (fun i wr => ∃ j : Nat, j ≤ t.kids.length ∧ i = .int .i64 j ∧ (t.kids.take j).all GTy.okS = true ∧ Below w.heap.size w wr ∧ Row wr w.heap.size 59 #[.int .i64 t.op, .int .i64 t.n, .string t.s, .slice A1 t.kids.length c1]) (fun i _ => t.kids.length - (intOf i).toNat)
    case atStart => exact ⟨0, by omega, by go_num, by simp, (Below.refl _ _).alloc (Nat.le_refl _) _, Row.new _ _ _⟩
    case round =>
      obtain ⟨j, hj, rfl, hall, hbl, hrow⟩ := hrel
      have Hall := Lib.hid hall
      clear hall
      have hsz := hbl.size
      have hgl := hrow.lt
      have hc := fun i => hrow.cell i
      by_cases hlt : j < t.kids.length
      · have htr := GTy.elem (hs.below hbl (Nat.le_refl _)) j hlt
        obtain ⟨b, off, A2, c2, rfl, hSb, g0, g1, g2, g3, hat⟩ := htr
        have hmem : t.kids[j] ∈ t.kids := List.getElem_mem hlt
        have hxb : (t.kids[j]).bulk < k := by have := bulkL_mem GTy.bulk t.kids _ hmem; omega
        clear hbe
        go_wp2_with fail
        refine (ih _ A2 c2 _ hxb (hat.below (Below.refl _ _) hsz)).mono ?_
        rintro e w1 ⟨rfl, hb1⟩
        cases he : (t.kids[j]).okS
        · have hn := Lib.hid (show t.kids.all GTy.okS = false from by rw [← Bool.not_eq_true]; intro h; have := List.all_eq_true.1 h _ hmem; rw [he] at this; cases this)
          clear he
          go_wp2_with fail
          go_ret
          exact ⟨ret_bool (by rw [hte.out, GTy.okSL_all, hn.out]; simp), hbl.trans (hb1.mono hsz)⟩
        · have he2 := Lib.hid he
          clear he
          go_wp2_with fail
          go_roundw
          case rel => exact ⟨j + 1, by omega, by go_num, by rw [take_snoc' _ j hlt, List.all_append, Hall.out]; simp [he2.out], hbl.trans (hb1.mono hsz), hrow.below hb1 hgl⟩
          case measure => simp [intOf]; omega
      · have hjl : j = t.kids.length := by omega
        have hko := Lib.hid (show GTy.okSL t.kids = true from by rw [GTy.okSL_all]; have := Hall.out; rwa [hjl, List.take_length] at this)
        clear hjl ih hbe Hall
        cases o1 : (t.op == 1)
        · skip
          cases o2 : (t.op == 2)
          · skip
            cases o3 : (t.op == 3)
            · skip
              cases o4 : (t.op == 4)
              · skip
                have hv := Lib.hid (show tyOk1 t.op t.n t.s t.kids.length = false from by
                  unfold tyOk1; simp only [beq_iff_eq, beq_eq_false_iff_ne, ne_eq] at o1 o2 o3 o4; simp [o1, o2, o3, o4])
                go_wp2_with fail
                go_ret
                exact ⟨ret_bool (by rw [hte.out, hv.out, hko.out]; rfl), hbl⟩
              · skip
                cases a : (t.n == 0)
                · skip
                  have hv := Lib.hid (show tyOk1 t.op t.n t.s t.kids.length = false from by
                    unfold tyOk1; simp only [beq_iff_eq, beq_eq_false_iff_ne, ne_eq] at o1 o2 o3 o4 a; simp [o1, o2, o3, o4, a])
                  go_wp2_with fail
                  go_ret
                  exact ⟨ret_bool (by rw [hte.out, hv.out, hko.out]; rfl), hbl⟩
                · skip
                  cases b : (t.s.toList.isEmpty)
                  · skip
                    have hv := Lib.hid (show tyOk1 t.op t.n t.s t.kids.length = true from by
                      unfold tyOk1; simp only [beq_iff_eq, beq_eq_false_iff_ne, ne_eq] at o1 o2 o3 o4 a b; simp [o1, o2, o3, o4, a, b])
                    go_wp2_with fail
                    go_ret
                    exact ⟨ret_bool (by rw [hte.out, hv.out, hko.out]; rfl), hbl⟩
                  · skip
                    have hv := Lib.hid (show tyOk1 t.op t.n t.s t.kids.length = false from by
                      unfold tyOk1; simp only [beq_iff_eq, beq_eq_false_iff_ne, ne_eq] at o1 o2 o3 o4 a b; simp [o1, o2, o3, o4, a, b])
                    go_wp2_with fail
                    go_ret
                    exact ⟨ret_bool (by rw [hte.out, hv.out, hko.out]; rfl), hbl⟩
            · skip
              cases a : (t.n == 0)
              · skip
                have hv := Lib.hid (show tyOk1 t.op t.n t.s t.kids.length = false from by
                  unfold tyOk1; simp only [beq_iff_eq, beq_eq_false_iff_ne, ne_eq] at o1 o2 o3 a; simp [o1, o2, o3, a])
                go_wp2_with fail
                go_ret
                exact ⟨ret_bool (by rw [hte.out, hv.out, hko.out]; rfl), hbl⟩
              · skip
                cases b : (t.s.toList.isEmpty)
                · skip
                  have hv := Lib.hid (show tyOk1 t.op t.n t.s t.kids.length = false from by
                    unfold tyOk1; simp only [beq_iff_eq, beq_eq_false_iff_ne, ne_eq] at o1 o2 o3 a b; simp [o1, o2, o3, a, b])
                  go_wp2_with fail
                  go_ret
                  exact ⟨ret_bool (by rw [hte.out, hv.out, hko.out]; rfl), hbl⟩
                · skip
                  by_cases hk : t.kids.length = 2
                  · have hk1 : (t.kids.length == 2) = true := by simp [hk]
                    have hk2 : ((t.kids.length : Int) == 2) = true := by rw [beq_iff_eq]; omega
                    have hv := Lib.hid (show tyOk1 t.op t.n t.s t.kids.length = true from by
                      unfold tyOk1; simp only [beq_iff_eq, beq_eq_false_iff_ne, ne_eq] at o1 o2 o3 a b; simp [o1, o2, o3, a, b, hk])
                    have Hk := Lib.hid hk
                    clear hk
                    go_wp2_with fail
                    go_ret
                    exact ⟨ret_bool (by rw [hte.out, hv.out, hko.out]; rfl), hbl⟩
                  · have hk1 : (t.kids.length == 2) = false := by simp [hk]
                    have hk2 : ((t.kids.length : Int) == 2) = false := by rw [beq_eq_false_iff_ne]; omega
                    have hv := Lib.hid (show tyOk1 t.op t.n t.s t.kids.length = false from by
                      unfold tyOk1; simp only [beq_iff_eq, beq_eq_false_iff_ne, ne_eq] at o1 o2 o3 a b; simp [o1, o2, o3, a, b, hk])
                    have Hk := Lib.hid hk
                    clear hk
                    go_wp2_with fail
                    go_ret
                    exact ⟨ret_bool (by rw [hte.out, hv.out, hko.out]; rfl), hbl⟩
          · skip
            by_cases a : 0 ≤ t.n
            · skip
              cases b : (t.s.toList.isEmpty)
              · skip
                have hv := Lib.hid (show tyOk1 t.op t.n t.s t.kids.length = false from by
                  unfold tyOk1; simp only [beq_iff_eq, beq_eq_false_iff_ne, ne_eq] at o1 o2 b; simp [o1, o2, a, b])
                go_wp2_with fail
                go_ret
                exact ⟨ret_bool (by rw [hte.out, hv.out, hko.out]; rfl), hbl⟩
              · skip
                by_cases hk : t.kids.length = 0
                · have hk1 : (t.kids.length == 0) = true := by simp [hk]
                  have hk2 : ((t.kids.length : Int) == 0) = true := by rw [beq_iff_eq]; omega
                  have hv := Lib.hid (show tyOk1 t.op t.n t.s t.kids.length = true from by
                    unfold tyOk1; simp only [beq_iff_eq, beq_eq_false_iff_ne, ne_eq] at o1 o2 b; simp [o1, o2, a, b, hk])
                  have Hk := Lib.hid hk
                  clear hk
                  go_wp2_with fail
                  go_ret
                  exact ⟨ret_bool (by rw [hte.out, hv.out, hko.out]; rfl), hbl⟩
                · have hk1 : (t.kids.length == 0) = false := by simp [hk]
                  have hk2 : ((t.kids.length : Int) == 0) = false := by rw [beq_eq_false_iff_ne]; omega
                  have hv := Lib.hid (show tyOk1 t.op t.n t.s t.kids.length = false from by
                    unfold tyOk1; simp only [beq_iff_eq, beq_eq_false_iff_ne, ne_eq] at o1 o2 b; simp [o1, o2, a, b, hk])
                  have Hk := Lib.hid hk
                  clear hk
                  go_wp2_with fail
                  go_ret
                  exact ⟨ret_bool (by rw [hte.out, hv.out, hko.out]; rfl), hbl⟩
            · skip
              have hv := Lib.hid (show tyOk1 t.op t.n t.s t.kids.length = false from by
                unfold tyOk1; simp only [beq_iff_eq, beq_eq_false_iff_ne, ne_eq] at o1 o2; simp [o1, o2, a])
              go_wp2_with fail
              go_ret
              exact ⟨ret_bool (by rw [hte.out, hv.out, hko.out]; rfl), hbl⟩
        · skip
          cases a : (t.n == 0)
          · skip
            have hv := Lib.hid (show tyOk1 t.op t.n t.s t.kids.length = false from by
              unfold tyOk1; simp only [beq_iff_eq, beq_eq_false_iff_ne, ne_eq] at o1 a; simp [o1, a])
            go_wp2_with fail
            go_ret
            exact ⟨ret_bool (by rw [hte.out, hv.out, hko.out]; rfl), hbl⟩
          · skip
            cases b : (t.s.toList.isEmpty)
            · skip
              have hv := Lib.hid (show tyOk1 t.op t.n t.s t.kids.length = false from by
                unfold tyOk1; simp only [beq_iff_eq, beq_eq_false_iff_ne, ne_eq] at o1 a b; simp [o1, a, b])
              go_wp2_with fail
              go_ret
              exact ⟨ret_bool (by rw [hte.out, hv.out, hko.out]; rfl), hbl⟩
            · skip
              by_cases hk : t.kids.length = 0
              · have hk1 : (t.kids.length == 0) = true := by simp [hk]
                have hk2 : ((t.kids.length : Int) == 0) = true := by rw [beq_iff_eq]; omega
                have hv := Lib.hid (show tyOk1 t.op t.n t.s t.kids.length = true from by
                  unfold tyOk1; simp only [beq_iff_eq, beq_eq_false_iff_ne, ne_eq] at o1 a b; simp [o1, a, b, hk])
                have Hk := Lib.hid hk
                clear hk
                go_wp2_with fail
                go_ret
                exact ⟨ret_bool (by rw [hte.out, hv.out, hko.out]; rfl), hbl⟩
              · have hk1 : (t.kids.length == 0) = false := by simp [hk]
                have hk2 : ((t.kids.length : Int) == 0) = false := by rw [beq_eq_false_iff_ne]; omega
                have hv := Lib.hid (show tyOk1 t.op t.n t.s t.kids.length = false from by
                  unfold tyOk1; simp only [beq_iff_eq, beq_eq_false_iff_ne, ne_eq] at o1 a b; simp [o1, a, b, hk])
                have Hk := Lib.hid hk
                clear hk
                go_wp2_with fail
                go_ret
                exact ⟨ret_bool (by rw [hte.out, hv.out, hko.out]; rfl), hbl⟩

theorem implTyOk (t : GTy) (A1 : Option Addr) (c1 : Nat) (w : World) (hn : t.nodes ≤ 4611686018427387904) (ht : GTy.At w (Lt w.heap.size) A1 c1 t) :
    Calls Try.prog 41 #[.agg #[.int .i64 t.op, .int .i64 t.n, .string t.s, .slice A1 t.kids.length c1]] w fun e w' => e = .returned (.bool t.ok) ∧ Below w.heap.size w w' := by
  have E : Below w.heap.size w (w.alloc (.cells #[.int .i64 t.op, .int .i64 t.n, .string t.s, .slice A1 t.kids.length c1] 59)) := (Below.refl _ _).alloc (Nat.le_refl _) _
  have r0 := Lib.hid (Row.new w 59 #[.int .i64 t.op, .int .i64 t.n, .string t.s, .slice A1 t.kids.length c1])
  have ht' := Lib.hid ht
  clear ht
  go_enter Try.func41, Try.ntmps41
  go_wp2_with fail
  refine (implTySize t.nodes t A1 c1 _ (Nat.le_refl _) hn (ht'.out.below E E.size)).mono ?_
  rintro e w1 ⟨rfl, hb1⟩
  have B1 := E.trans (hb1.mono E.size)
  have r1 := Lib.hid (r0.out.below hb1 r0.out.lt)
  have hc1 := fun i => r1.out.cell i
  by_cases h : t.nodes ≤ 200
  · have hI : (t.nodes : Int) ≤ 200 := by omega
    go_wp2_with fail
    refine (implTyShape (t.bulk + 1) t A1 c1 _ (by omega) (ht'.out.below B1 B1.size)).mono ?_
    rintro e w2 ⟨rfl, hb2⟩
    go_wp2_with fail
    go_ret
    exact ⟨ret_bool (by unfold GTy.ok; simp [h]), B1.trans (hb2.mono B1.size)⟩
  · have hI : ¬ (t.nodes : Int) ≤ 200 := by omega
    have hI2 : decide ((t.nodes : Int) ≤ 200) = false := by simpa using hI
    go_wp2_with fail
    go_ret
    exact ⟨ret_bool (by unfold GTy.ok; simp [h]), B1⟩

theorem specTyOk (t : GTy) (A1 : Option Addr) (c1 : Nat) (w : World) (hn : t.nodes ≤ 4611686018427387904) (ht : GTy.At w (Lt w.heap.size) A1 c1 t) :
    Calls Try.prog 57 #[.agg #[.int .i64 t.op, .int .i64 t.n, .string t.s, .slice A1 t.kids.length c1]] w fun e w' => e = .returned (.bool t.ok) ∧ Below w.heap.size w w' := by
  have E : Below w.heap.size w (w.alloc (.cells #[.int .i64 t.op, .int .i64 t.n, .string t.s, .slice A1 t.kids.length c1] 59)) := (Below.refl _ _).alloc (Nat.le_refl _) _
  have r0 := Lib.hid (Row.new w 59 #[.int .i64 t.op, .int .i64 t.n, .string t.s, .slice A1 t.kids.length c1])
  have ht' := Lib.hid ht
  clear ht
  go_enter Try.func57, Try.ntmps57
  go_wp2_with fail
  refine (specTySize t.nodes t A1 c1 _ (Nat.le_refl _) hn (ht'.out.below E E.size)).mono ?_
  rintro e w1 ⟨rfl, hb1⟩
  have B1 := E.trans (hb1.mono E.size)
  have r1 := Lib.hid (r0.out.below hb1 r0.out.lt)
  have hc1 := fun i => r1.out.cell i
  by_cases h : t.nodes ≤ 200
  · have hI : (t.nodes : Int) ≤ 200 := by omega
    go_wp2_with fail
    refine (specTyShape (t.bulk + 1) t A1 c1 _ (by omega) (ht'.out.below B1 B1.size)).mono ?_
    rintro e w2 ⟨rfl, hb2⟩
    go_wp2_with fail
    go_ret
    exact ⟨ret_bool (by unfold GTy.ok; simp [h]), B1.trans (hb2.mono B1.size)⟩
  · have hI : ¬ (t.nodes : Int) ≤ 200 := by omega
    have hI2 : decide ((t.nodes : Int) ≤ 200) = false := by simpa using hI
    go_wp2_with fail
    go_ret
    exact ⟨ret_bool (by unfold GTy.ok; simp [h]), B1⟩

end Go.Proofs.Ytgbcdfeflgnogaa
