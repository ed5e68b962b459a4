/- Types of a data that are tidy. Conditions: none but a bound on the number of vars. -/
import Derived.Test.YtgbcdfeflgnogaaNameOk
import Derived.Test.YtgbcdfeflgnogaaFTy
namespace Go.Proofs.Ytgbcdfeflgnogaa
open Go.RowKit
set_option linter.unusedVariables false
set_option linter.unusedSimpArgs false
set_option maxHeartbeats 1000000

/-- is one type tidy by itself, with so many kids? -/
def tidy1 (vs op n : Int) (s : ByteArray) (k : Nat) : Bool :=
  if op = 1 then n == 0 && (s.toList.isEmpty && k == 0)
  else if op = 2 then inB n 0 (vs - 1) && (s.toList.isEmpty && k == 0)
  else if op = 3 then n == 0 && (s.toList.isEmpty && k == 2)
  else if op = 4 then n == 0 && conB s else false

mutual
/-- is a type tidy? -/
def GTy.tidy (vs : Int) : GTy → Bool | .mk op n s kids => tidy1 vs op n s kids.length && GTy.tidyL vs kids
def GTy.tidyL (vs : Int) : List GTy → Bool | [] => true | t :: r => t.tidy vs && GTy.tidyL vs r
end

theorem GTy.tidy_eq (vs : Int) (t : GTy) : t.tidy vs = (tidy1 vs t.op t.n t.s t.kids.length && GTy.tidyL vs t.kids) := by
  cases t; simp only [GTy.tidy, GTy.op, GTy.n, GTy.s, GTy.kids]
theorem GTy.tidyL_all (vs : Int) : ∀ l : List GTy, GTy.tidyL vs l = l.all (GTy.tidy vs)
  | [] => rfl
  | t :: r => by simp only [GTy.tidyL, List.all_cons, GTy.tidyL_all vs r]
theorem GTy.tidyL_any (vs : Int) (l : List GTy) : GTy.tidyL vs l = !(l.any fun t => !t.tidy vs) := by
  rw [GTy.tidyL_all]; induction l with
  | nil => rfl
  | cons t r ih => simp only [List.all_cons, List.any_cons, ih, Bool.not_or, Bool.not_not]

theorem implTypeTidy (vs : Int) (hv0 : 0 ≤ vs) (hv1 : vs ≤ 26) (k : Nat) : ∀ (t : GTy) (A1 : Option Addr) (c1 : Nat) (w : World), t.bulk < k → GTy.At w (Lt w.heap.size) A1 c1 t →
    Calls Try.prog 200 #[.agg #[.int .i64 t.op, .int .i64 t.n, .string t.s, .slice A1 t.kids.length c1], .int .i64 vs] w fun e w' => e = .returned (.bool (t.tidy vs)) ∧ Below w.heap.size w w' := by
  induction k with
  | zero => intro t A1 c1 w h; omega
  | succ k ih =>
    intro t A1 c1 w hk0 ht
    obtain ⟨h0, h1, h2, hs⟩ := id ht
    have hsz2 : t.s.size ≤ 9223372036854775807 := by unfold maxLen at h2; omega
    have hlen : t.kids.length ≤ 9223372036854775807 := by simpa using hs.len
    have hte := Lib.hid (t.tidy_eq vs)
    have hbe := t.bulk_eq
    obtain ⟨w0, e0⟩ : ∃ w0, w0 = (w.alloc (.cells #[.int .i64 t.op, .int .i64 t.n, .string t.s, .slice A1 t.kids.length c1] 59)).alloc (.cells #[.int .i64 vs] 3) := ⟨_, rfl⟩
    have E := Lib.hid (show Below w.heap.size w w0 by rw [e0]; exact ((Below.refl _ _).alloc (Nat.le_refl _) _).alloc (by simp) _)
    have R := Lib.hid (show Row w0 (w.heap.size + 1) 3 #[.int .i64 vs] by rw [e0]; exact Row.new' _ _ _ (by simp))
    have EQ := Lib.hid e0
    -- the literal that asks a kid
    have HC : ∀ x, x ∈ t.kids → ∀ (A1 : Option Addr) (c1 : Nat) (w2 : World), GTy.At w2 (Lt w2.heap.size) A1 c1 x → Below w0.heap.size w0 w2 →
        Calls Try.prog 253 (#[.agg #[.int .i64 x.op, .int .i64 x.n, .string x.s, .slice A1 x.kids.length c1]] ++ #[.pointer (some ⟨w.heap.size + 1, 0, none⟩)]) w2 fun e w' => e = .returned (.bool (!x.tidy vs)) ∧ Below w2.heap.size w2 w' := by
      intro x hx A1 c1 w2 hx2 hbw
      have hxb : x.bulk < k := by have := bulkL_mem GTy.bulk t.kids x hx; omega
      have E2 : Below w2.heap.size w2 (w2.alloc (.cells #[.int .i64 x.op, .int .i64 x.n, .string x.s, .slice A1 x.kids.length c1] 59)) := (Below.refl _ _).alloc (Nat.le_refl _) _
      have R2 := (R.out.below hbw R.out.lt).alloc (.cells #[.int .i64 x.op, .int .i64 x.n, .string x.s, .slice A1 x.kids.length c1] 59)
      have hc2 := fun i => R2.cell i
      clear hbe h0 h1 h2 hs ht hlen e0
      go_enter Try.func253, Try.ntmps253
      go_wp2_with fail
      refine (ih x A1 c1 _ hxb (hx2.below E2 E2.size)).mono ?_
      rintro e w3 ⟨rfl, hb3⟩
      go_wp2_with fail
      go_ret
      exact ⟨rfl, E2.trans (hb3.mono E2.size)⟩
    have HH := Lib.hid HC
    have HS := Lib.hid (hs.below E.out E.out.size)
    clear HC ih hbe e0
    cases o1 : (t.op == 1)
    · skip
      cases o2 : (t.op == 2)
      · skip
        cases o3 : (t.op == 3)
        · skip
          cases o4 : (t.op == 4)
          · skip
            have hv := Lib.hid (show tidy1 vs t.op t.n t.s t.kids.length = false from by
              unfold tidy1; simp only [beq_iff_eq, beq_eq_false_iff_ne, ne_eq] at o1 o2 o3 o4; simp [o1, o2, o3, o4])
            go_enter Try.func200, Try.ntmps200
            go_wp2_with fail
            go_ret
            rw [← EQ.out]
            exact ⟨ret_bool (by rw [hte.out, hv.out]; rfl), E.out⟩
          · skip
            cases a : (t.n == 0)
            · skip
              have hv := Lib.hid (show tidy1 vs t.op t.n t.s t.kids.length = false from by
                unfold tidy1; simp only [beq_iff_eq, beq_eq_false_iff_ne, ne_eq] at o1 o2 o3 o4 a; simp [o1, o2, o3, o4, a])
              go_enter Try.func200, Try.ntmps200
              go_wp2_with fail
              go_ret
              rw [← EQ.out]
              exact ⟨ret_bool (by rw [hte.out, hv.out]; rfl), E.out⟩
            · skip
              cases cn : (conB t.s)
              · skip
                have hv := Lib.hid (show tidy1 vs t.op t.n t.s t.kids.length = false from by
                  unfold tidy1; simp only [beq_iff_eq, beq_eq_false_iff_ne, ne_eq] at o1 o2 o3 o4 a; simp [o1, o2, o3, o4, a, cn])
                have HCN := Lib.hid (fun (wx : World) => implConOk t.s wx hsz2)
                rw [cn] at HCN
                clear cn
                go_enter Try.func200, Try.ntmps200
                go_wp2_with (first | (go_at_call 195; refine (HCN.out _).mono ?_; rintro e w9 ⟨rfl, rfl⟩))
                go_ret
                rw [← EQ.out]
                exact ⟨ret_bool (by rw [hte.out, hv.out]; rfl), E.out⟩
              · skip
                have hv := Lib.hid (show tidy1 vs t.op t.n t.s t.kids.length = true from by
                  unfold tidy1; simp only [beq_iff_eq, beq_eq_false_iff_ne, ne_eq] at o1 o2 o3 o4 a; simp [o1, o2, o3, o4, a, cn])
                have HCN := Lib.hid (fun (wx : World) => implConOk t.s wx hsz2)
                rw [cn] at HCN
                clear cn
                go_enter Try.func200, Try.ntmps200
                go_wp2_with (first | (go_at_call 195; refine (HCN.out _).mono ?_; rintro e w9 ⟨rfl, rfl⟩))
                rw [← EQ.out]
                refine (containsFuncTy 253 (enters Try.func253 (by kernel_rfl) (by kernel_rfl)) #[.pointer (some ⟨w.heap.size + 1, 0, none⟩)] (fun x => !x.tidy vs) t.kids A1 c1 _ HS.out (fun x hx A2 c2 w2 hb2 hx2 => HH.out x hx A2 c2 w2 hx2 hb2)).mono ?_
                rintro e w1 ⟨rfl, hb1⟩
                go_wp2_with fail
                go_ret
                exact ⟨ret_bool (by rw [hte.out, hv.out, GTy.tidyL_any]; rfl), E.out.trans (hb1.mono E.out.size)⟩
        · skip
          cases a : (t.n == 0)
          · skip
            have hv := Lib.hid (show tidy1 vs t.op t.n t.s t.kids.length = false from by
              unfold tidy1; simp only [beq_iff_eq, beq_eq_false_iff_ne, ne_eq] at o1 o2 o3 a; simp [o1, o2, o3, a])
            go_enter Try.func200, Try.ntmps200
            go_wp2_with fail
            go_ret
            rw [← EQ.out]
            exact ⟨ret_bool (by rw [hte.out, hv.out]; rfl), E.out⟩
          · skip
            cases b : (t.s.toList.isEmpty)
            · skip
              have hv := Lib.hid (show tidy1 vs t.op t.n t.s t.kids.length = false from by
                unfold tidy1; simp only [beq_iff_eq, beq_eq_false_iff_ne, ne_eq] at o1 o2 o3 a; simp [o1, o2, o3, a, b])
              go_enter Try.func200, Try.ntmps200
              go_wp2_with fail
              go_ret
              rw [← EQ.out]
              exact ⟨ret_bool (by rw [hte.out, hv.out]; rfl), E.out⟩
            · skip
              by_cases hk : t.kids.length = 2
              · have hk1 : (t.kids.length == 2) = true := by simp [hk]
                have hk2 : ((t.kids.length : Int) == 2) = true := by rw [beq_iff_eq]; omega
                have hv := Lib.hid (show tidy1 vs t.op t.n t.s t.kids.length = true from by
                  unfold tidy1; simp only [beq_iff_eq, beq_eq_false_iff_ne, ne_eq] at o1 o2 o3 a; simp [o1, o2, o3, a, b, hk])
                have Hk := Lib.hid hk
                clear hk
                go_enter Try.func200, Try.ntmps200
                go_wp2_with fail
                rw [← EQ.out]
                refine (containsFuncTy 253 (enters Try.func253 (by kernel_rfl) (by kernel_rfl)) #[.pointer (some ⟨w.heap.size + 1, 0, none⟩)] (fun x => !x.tidy vs) t.kids A1 c1 _ HS.out (fun x hx A2 c2 w2 hb2 hx2 => HH.out x hx A2 c2 w2 hx2 hb2)).mono ?_
                rintro e w1 ⟨rfl, hb1⟩
                go_wp2_with fail
                go_ret
                exact ⟨ret_bool (by rw [hte.out, hv.out, GTy.tidyL_any]; rfl), E.out.trans (hb1.mono E.out.size)⟩
              · have hk1 : (t.kids.length == 2) = false := by simp [hk]
                have hk2 : ((t.kids.length : Int) == 2) = false := by rw [beq_eq_false_iff_ne]; omega
                have hv := Lib.hid (show tidy1 vs t.op t.n t.s t.kids.length = false from by
                  unfold tidy1; simp only [beq_iff_eq, beq_eq_false_iff_ne, ne_eq] at o1 o2 o3 a; simp [o1, o2, o3, a, b, hk])
                have Hk := Lib.hid hk
                clear hk
                go_enter Try.func200, Try.ntmps200
                go_wp2_with fail
                go_ret
                rw [← EQ.out]
                exact ⟨ret_bool (by rw [hte.out, hv.out]; rfl), E.out⟩
      · skip
        cases v : (inB t.n 0 (vs - 1))
        · skip
          have hv := Lib.hid (show tidy1 vs t.op t.n t.s t.kids.length = false from by
            unfold tidy1; simp only [beq_iff_eq, beq_eq_false_iff_ne, ne_eq] at o1 o2; simp [o1, o2, v])
          have HIN := Lib.hid (fun (wx : World) => implWithin t.n 0 (vs - 1) wx)
          rw [v] at HIN
          clear v
          go_enter Try.func200, Try.ntmps200
          go_wp2_with (first | (go_at_call 193; refine (HIN.out _).mono ?_; rintro e w9 ⟨rfl, rfl⟩))
          go_ret
          rw [← EQ.out]
          exact ⟨ret_bool (by rw [hte.out, hv.out]; rfl), E.out⟩
        · skip
          cases b : (t.s.toList.isEmpty)
          · skip
            have hv := Lib.hid (show tidy1 vs t.op t.n t.s t.kids.length = false from by
              unfold tidy1; simp only [beq_iff_eq, beq_eq_false_iff_ne, ne_eq] at o1 o2; simp [o1, o2, v, b])
            have HIN := Lib.hid (fun (wx : World) => implWithin t.n 0 (vs - 1) wx)
            rw [v] at HIN
            clear v
            go_enter Try.func200, Try.ntmps200
            go_wp2_with (first | (go_at_call 193; refine (HIN.out _).mono ?_; rintro e w9 ⟨rfl, rfl⟩))
            go_ret
            rw [← EQ.out]
            exact ⟨ret_bool (by rw [hte.out, hv.out]; rfl), E.out⟩
          · skip
            by_cases hk : t.kids.length = 0
            · have hk1 : (t.kids.length == 0) = true := by simp [hk]
              have hk2 : ((t.kids.length : Int) == 0) = true := by rw [beq_iff_eq]; omega
              have hv := Lib.hid (show tidy1 vs t.op t.n t.s t.kids.length = true from by
                unfold tidy1; simp only [beq_iff_eq, beq_eq_false_iff_ne, ne_eq] at o1 o2; simp [o1, o2, v, b, hk])
              have HIN := Lib.hid (fun (wx : World) => implWithin t.n 0 (vs - 1) wx)
              rw [v] at HIN
              clear v
              have Hk := Lib.hid hk
              clear hk
              go_enter Try.func200, Try.ntmps200
              go_wp2_with (first | (go_at_call 193; refine (HIN.out _).mono ?_; rintro e w9 ⟨rfl, rfl⟩))
              rw [← EQ.out]
              refine (containsFuncTy 253 (enters Try.func253 (by kernel_rfl) (by kernel_rfl)) #[.pointer (some ⟨w.heap.size + 1, 0, none⟩)] (fun x => !x.tidy vs) t.kids A1 c1 _ HS.out (fun x hx A2 c2 w2 hb2 hx2 => HH.out x hx A2 c2 w2 hx2 hb2)).mono ?_
              rintro e w1 ⟨rfl, hb1⟩
              go_wp2_with fail
              go_ret
              exact ⟨ret_bool (by rw [hte.out, hv.out, GTy.tidyL_any]; rfl), E.out.trans (hb1.mono E.out.size)⟩
            · have hk1 : (t.kids.length == 0) = false := by simp [hk]
              have hk2 : ((t.kids.length : Int) == 0) = false := by rw [beq_eq_false_iff_ne]; omega
              have hv := Lib.hid (show tidy1 vs t.op t.n t.s t.kids.length = false from by
                unfold tidy1; simp only [beq_iff_eq, beq_eq_false_iff_ne, ne_eq] at o1 o2; simp [o1, o2, v, b, hk])
              have HIN := Lib.hid (fun (wx : World) => implWithin t.n 0 (vs - 1) wx)
              rw [v] at HIN
              clear v
              have Hk := Lib.hid hk
              clear hk
              go_enter Try.func200, Try.ntmps200
              go_wp2_with (first | (go_at_call 193; refine (HIN.out _).mono ?_; rintro e w9 ⟨rfl, rfl⟩))
              go_ret
              rw [← EQ.out]
              exact ⟨ret_bool (by rw [hte.out, hv.out]; rfl), E.out⟩
    · skip
      cases a : (t.n == 0)
      · skip
        have hv := Lib.hid (show tidy1 vs t.op t.n t.s t.kids.length = false from by
          unfold tidy1; simp only [beq_iff_eq, beq_eq_false_iff_ne, ne_eq] at o1 a; simp [o1, a])
        go_enter Try.func200, Try.ntmps200
        go_wp2_with fail
        go_ret
        rw [← EQ.out]
        exact ⟨ret_bool (by rw [hte.out, hv.out]; rfl), E.out⟩
      · skip
        cases b : (t.s.toList.isEmpty)
        · skip
          have hv := Lib.hid (show tidy1 vs t.op t.n t.s t.kids.length = false from by
            unfold tidy1; simp only [beq_iff_eq, beq_eq_false_iff_ne, ne_eq] at o1 a; simp [o1, a, b])
          go_enter Try.func200, Try.ntmps200
          go_wp2_with fail
          go_ret
          rw [← EQ.out]
          exact ⟨ret_bool (by rw [hte.out, hv.out]; rfl), E.out⟩
        · skip
          by_cases hk : t.kids.length = 0
          · have hk1 : (t.kids.length == 0) = true := by simp [hk]
            have hk2 : ((t.kids.length : Int) == 0) = true := by rw [beq_iff_eq]; omega
            have hv := Lib.hid (show tidy1 vs t.op t.n t.s t.kids.length = true from by
              unfold tidy1; simp only [beq_iff_eq, beq_eq_false_iff_ne, ne_eq] at o1 a; simp [o1, a, b, hk])
            have Hk := Lib.hid hk
            clear hk
            go_enter Try.func200, Try.ntmps200
            go_wp2_with fail
            rw [← EQ.out]
            refine (containsFuncTy 253 (enters Try.func253 (by kernel_rfl) (by kernel_rfl)) #[.pointer (some ⟨w.heap.size + 1, 0, none⟩)] (fun x => !x.tidy vs) t.kids A1 c1 _ HS.out (fun x hx A2 c2 w2 hb2 hx2 => HH.out x hx A2 c2 w2 hx2 hb2)).mono ?_
            rintro e w1 ⟨rfl, hb1⟩
            go_wp2_with fail
            go_ret
            exact ⟨ret_bool (by rw [hte.out, hv.out, GTy.tidyL_any]; rfl), E.out.trans (hb1.mono E.out.size)⟩
          · have hk1 : (t.kids.length == 0) = false := by simp [hk]
            have hk2 : ((t.kids.length : Int) == 0) = false := by rw [beq_eq_false_iff_ne]; omega
            have hv := Lib.hid (show tidy1 vs t.op t.n t.s t.kids.length = false from by
              unfold tidy1; simp only [beq_iff_eq, beq_eq_false_iff_ne, ne_eq] at o1 a; simp [o1, a, b, hk])
            have Hk := Lib.hid hk
            clear hk
            go_enter Try.func200, Try.ntmps200
            go_wp2_with fail
            go_ret
            rw [← EQ.out]
            exact ⟨ret_bool (by rw [hte.out, hv.out]; rfl), E.out⟩

theorem specTypeTidy (vs : Int) (hv0 : 0 ≤ vs) (hv1 : vs ≤ 26) (k : Nat) : ∀ (t : GTy) (A1 : Option Addr) (c1 : Nat) (w : World), t.bulk < k → GTy.At w (Lt w.heap.size) A1 c1 t →
    Calls Try.prog 101 #[.agg #[.int .i64 t.op, .int .i64 t.n, .string t.s, .slice A1 t.kids.length c1], .int .i64 vs] w fun e w' => e = .returned (.bool (t.tidy vs)) ∧ Below w.heap.size w w' := by
  induction k with
  | zero => intro t A1 c1 w h; omega
  | succ k ih =>
    intro t A1 c1 w hk0 ht
    obtain ⟨h0, h1, h2, hs⟩ := id ht
    have hsz2 : t.s.size ≤ 9223372036854775807 := by unfold maxLen at h2; omega
    have hlen : t.kids.length ≤ 9223372036854775807 := by simpa using hs.len
    have hte := Lib.hid (t.tidy_eq vs)
    have hbe := t.bulk_eq
    go_enter Try.func101, Try.ntmps101
    go_wp2_with fail
    go_loopw [5] (fun i wr => ∃ j : Nat, j ≤ t.kids.length ∧ i = .int .i64 j ∧ (t.kids.take j).all (GTy.tidy vs) = true ∧ Below w.heap.size w wr ∧ Row wr w.heap.size 59 #[.int .i64 t.op, .int .i64 t.n, .string t.s, .slice A1 t.kids.length c1]) (fun i _ => t.kids.length - (intOf i).toNat)
    case atStart => exact ⟨0, by omega, by go_num, by simp, (Below.refl _ _).alloc (Nat.le_refl _) _, Row.new _ _ _⟩
    case round =>
      obtain ⟨j, hj, rfl, hall, hbl, hrow⟩ := hrel
      have Hall := Lib.hid hall
      clear hall
      have hsz := hbl.size
      have hgl := hrow.lt
      have hc := fun i => hrow.cell i
      by_cases hlt : j < t.kids.length
      · have htr := GTy.elem (hs.below hbl (Nat.le_refl _)) j hlt
        obtain ⟨b, off, A2, c2, rfl, hSb, g0, g1, g2, g3, hat⟩ := htr
        have hmem : t.kids[j] ∈ t.kids := List.getElem_mem hlt
        have hxb : (t.kids[j]).bulk < k := by have := bulkL_mem GTy.bulk t.kids _ hmem; omega
        clear hbe
        go_wp2_with fail
        refine (ih _ A2 c2 _ hxb (hat.below (Below.refl _ _) hsz)).mono ?_
        rintro e w1 ⟨rfl, hb1⟩
        cases he : (t.kids[j]).tidy vs
        · have hn := Lib.hid (show t.kids.all (GTy.tidy vs) = false from by rw [← Bool.not_eq_true]; intro h; have := List.all_eq_true.1 h _ hmem; rw [he] at this; cases this)
          clear he
          go_wp2_with fail
          go_ret
          exact ⟨ret_bool (by rw [hte.out, GTy.tidyL_all, hn.out]; simp), hbl.trans (hb1.mono hsz)⟩
        · have he2 := Lib.hid he
          clear he
          go_wp2_with fail
          go_roundw
          case rel => exact ⟨j + 1, by omega, by go_num, by rw [take_snoc' _ j hlt, List.all_append, Hall.out]; simp [he2.out], hbl.trans (hb1.mono hsz), hrow.below hb1 hgl⟩
          case measure => simp [intOf]; omega
      · have hjl : j = t.kids.length := by omega
        have hko := Lib.hid (show GTy.tidyL vs t.kids = true from by rw [GTy.tidyL_all]; have := Hall.out; rwa [hjl, List.take_length] at this)
        clear hjl ih hbe Hall
        cases o1 : (t.op == 1)
        · skip
          cases o2 : (t.op == 2)
          · skip
            cases o3 : (t.op == 3)
            · skip
              cases o4 : (t.op == 4)
              · skip
                have hv := Lib.hid (show tidy1 vs t.op t.n t.s t.kids.length = false from by
                  unfold tidy1; simp only [beq_iff_eq, beq_eq_false_iff_ne, ne_eq] at o1 o2 o3 o4; simp [o1, o2, o3, o4])
                go_wp2_with fail
                go_ret
                exact ⟨ret_bool (by rw [hte.out, hv.out, hko.out]; rfl), hbl⟩
              · skip
                cases a : (t.n == 0)
                · skip
                  have hv := Lib.hid (show tidy1 vs t.op t.n t.s t.kids.length = false from by
                    unfold tidy1; simp only [beq_iff_eq, beq_eq_false_iff_ne, ne_eq] at o1 o2 o3 o4 a; simp [o1, o2, o3, o4, a])
                  go_wp2_with fail
                  go_ret
                  exact ⟨ret_bool (by rw [hte.out, hv.out, hko.out]; rfl), hbl⟩
                · skip
                  cases cn : (conB t.s)
                  · skip
                    have hv := Lib.hid (show tidy1 vs t.op t.n t.s t.kids.length = false from by
                      unfold tidy1; simp only [beq_iff_eq, beq_eq_false_iff_ne, ne_eq] at o1 o2 o3 o4 a; simp [o1, o2, o3, o4, a, cn])
                    have HCN := Lib.hid (fun (wx : World) => specCon t.s wx hsz2)
                    rw [cn] at HCN
                    clear cn
                    go_wp2_with (first | (go_at_call 98; refine (HCN.out _).mono ?_; rintro e w9 ⟨rfl, rfl⟩))
                    go_ret
                    exact ⟨ret_bool (by rw [hte.out, hv.out, hko.out]; rfl), hbl⟩
                  · skip
                    have hv := Lib.hid (show tidy1 vs t.op t.n t.s t.kids.length = true from by
                      unfold tidy1; simp only [beq_iff_eq, beq_eq_false_iff_ne, ne_eq] at o1 o2 o3 o4 a; simp [o1, o2, o3, o4, a, cn])
                    have HCN := Lib.hid (fun (wx : World) => specCon t.s wx hsz2)
                    rw [cn] at HCN
                    clear cn
                    go_wp2_with (first | (go_at_call 98; refine (HCN.out _).mono ?_; rintro e w9 ⟨rfl, rfl⟩))
                    go_ret
                    exact ⟨ret_bool (by rw [hte.out, hv.out, hko.out]; rfl), hbl⟩
            · skip
              cases a : (t.n == 0)
              · skip
                have hv := Lib.hid (show tidy1 vs t.op t.n t.s t.kids.length = false from by
                  unfold tidy1; simp only [beq_iff_eq, beq_eq_false_iff_ne, ne_eq] at o1 o2 o3 a; simp [o1, o2, o3, a])
                go_wp2_with fail
                go_ret
                exact ⟨ret_bool (by rw [hte.out, hv.out, hko.out]; rfl), hbl⟩
              · skip
                cases b : (t.s.toList.isEmpty)
                · skip
                  have hv := Lib.hid (show tidy1 vs t.op t.n t.s t.kids.length = false from by
                    unfold tidy1; simp only [beq_iff_eq, beq_eq_false_iff_ne, ne_eq] at o1 o2 o3 a; simp [o1, o2, o3, a, b])
                  go_wp2_with fail
                  go_ret
                  exact ⟨ret_bool (by rw [hte.out, hv.out, hko.out]; rfl), hbl⟩
                · skip
                  by_cases hk : t.kids.length = 2
                  · have hk1 : (t.kids.length == 2) = true := by simp [hk]
                    have hk2 : ((t.kids.length : Int) == 2) = true := by rw [beq_iff_eq]; omega
                    have hv := Lib.hid (show tidy1 vs t.op t.n t.s t.kids.length = true from by
                      unfold tidy1; simp only [beq_iff_eq, beq_eq_false_iff_ne, ne_eq] at o1 o2 o3 a; simp [o1, o2, o3, a, b, hk])
                    have Hk := Lib.hid hk
                    clear hk
                    go_wp2_with fail
                    go_ret
                    exact ⟨ret_bool (by rw [hte.out, hv.out, hko.out]; rfl), hbl⟩
                  · have hk1 : (t.kids.length == 2) = false := by simp [hk]
                    have hk2 : ((t.kids.length : Int) == 2) = false := by rw [beq_eq_false_iff_ne]; omega
                    have hv := Lib.hid (show tidy1 vs t.op t.n t.s t.kids.length = false from by
                      unfold tidy1; simp only [beq_iff_eq, beq_eq_false_iff_ne, ne_eq] at o1 o2 o3 a; simp [o1, o2, o3, a, b, hk])
                    have Hk := Lib.hid hk
                    clear hk
                    go_wp2_with fail
                    go_ret
                    exact ⟨ret_bool (by rw [hte.out, hv.out, hko.out]; rfl), hbl⟩
          · skip
            cases v : (inB t.n 0 (vs - 1))
            · skip
              have hv := Lib.hid (show tidy1 vs t.op t.n t.s t.kids.length = false from by
                unfold tidy1; simp only [beq_iff_eq, beq_eq_false_iff_ne, ne_eq] at o1 o2; simp [o1, o2, v])
              have HIN := Lib.hid (fun (wx : World) => specIn t.n 0 (vs - 1) wx)
              rw [v] at HIN
              clear v
              go_wp2_with (first | (go_at_call 99; refine (HIN.out _).mono ?_; rintro e w9 ⟨rfl, rfl⟩))
              go_ret
              exact ⟨ret_bool (by rw [hte.out, hv.out, hko.out]; rfl), hbl⟩
            · skip
              cases b : (t.s.toList.isEmpty)
              · skip
                have hv := Lib.hid (show tidy1 vs t.op t.n t.s t.kids.length = false from by
                  unfold tidy1; simp only [beq_iff_eq, beq_eq_false_iff_ne, ne_eq] at o1 o2; simp [o1, o2, v, b])
                have HIN := Lib.hid (fun (wx : World) => specIn t.n 0 (vs - 1) wx)
                rw [v] at HIN
                clear v
                go_wp2_with (first | (go_at_call 99; refine (HIN.out _).mono ?_; rintro e w9 ⟨rfl, rfl⟩))
                go_ret
                exact ⟨ret_bool (by rw [hte.out, hv.out, hko.out]; rfl), hbl⟩
              · skip
                by_cases hk : t.kids.length = 0
                · have hk1 : (t.kids.length == 0) = true := by simp [hk]
                  have hk2 : ((t.kids.length : Int) == 0) = true := by rw [beq_iff_eq]; omega
                  have hv := Lib.hid (show tidy1 vs t.op t.n t.s t.kids.length = true from by
                    unfold tidy1; simp only [beq_iff_eq, beq_eq_false_iff_ne, ne_eq] at o1 o2; simp [o1, o2, v, b, hk])
                  have HIN := Lib.hid (fun (wx : World) => specIn t.n 0 (vs - 1) wx)
                  rw [v] at HIN
                  clear v
                  have Hk := Lib.hid hk
                  clear hk
                  go_wp2_with (first | (go_at_call 99; refine (HIN.out _).mono ?_; rintro e w9 ⟨rfl, rfl⟩))
                  go_ret
                  exact ⟨ret_bool (by rw [hte.out, hv.out, hko.out]; rfl), hbl⟩
                · have hk1 : (t.kids.length == 0) = false := by simp [hk]
                  have hk2 : ((t.kids.length : Int) == 0) = false := by rw [beq_eq_false_iff_ne]; omega
                  have hv := Lib.hid (show tidy1 vs t.op t.n t.s t.kids.length = false from by
                    unfold tidy1; simp only [beq_iff_eq, beq_eq_false_iff_ne, ne_eq] at o1 o2; simp [o1, o2, v, b, hk])
                  have HIN := Lib.hid (fun (wx : World) => specIn t.n 0 (vs - 1) wx)
                  rw [v] at HIN
                  clear v
                  have Hk := Lib.hid hk
                  clear hk
                  go_wp2_with (first | (go_at_call 99; refine (HIN.out _).mono ?_; rintro e w9 ⟨rfl, rfl⟩))
                  go_ret
                  exact ⟨ret_bool (by rw [hte.out, hv.out, hko.out]; rfl), hbl⟩
        · skip
          cases a : (t.n == 0)
          · skip
            have hv := Lib.hid (show tidy1 vs t.op t.n t.s t.kids.length = false from by
              unfold tidy1; simp only [beq_iff_eq, beq_eq_false_iff_ne, ne_eq] at o1 a; simp [o1, a])
            go_wp2_with fail
            go_ret
            exact ⟨ret_bool (by rw [hte.out, hv.out, hko.out]; rfl), hbl⟩
          · skip
            cases b : (t.s.toList.isEmpty)
            · skip
              have hv := Lib.hid (show tidy1 vs t.op t.n t.s t.kids.length = false from by
                unfold tidy1; simp only [beq_iff_eq, beq_eq_false_iff_ne, ne_eq] at o1 a; simp [o1, a, b])
              go_wp2_with fail
              go_ret
              exact ⟨ret_bool (by rw [hte.out, hv.out, hko.out]; rfl), hbl⟩
            · skip
              by_cases hk : t.kids.length = 0
              · have hk1 : (t.kids.length == 0) = true := by simp [hk]
                have hk2 : ((t.kids.length : Int) == 0) = true := by rw [beq_iff_eq]; omega
                have hv := Lib.hid (show tidy1 vs t.op t.n t.s t.kids.length = true from by
                  unfold tidy1; simp only [beq_iff_eq, beq_eq_false_iff_ne, ne_eq] at o1 a; simp [o1, a, b, hk])
                have Hk := Lib.hid hk
                clear hk
                go_wp2_with fail
                go_ret
                exact ⟨ret_bool (by rw [hte.out, hv.out, hko.out]; rfl), hbl⟩
              · have hk1 : (t.kids.length == 0) = false := by simp [hk]
                have hk2 : ((t.kids.length : Int) == 0) = false := by rw [beq_eq_false_iff_ne]; omega
                have hv := Lib.hid (show tidy1 vs t.op t.n t.s t.kids.length = false from by
                  unfold tidy1; simp only [beq_iff_eq, beq_eq_false_iff_ne, ne_eq] at o1 a; simp [o1, a, b, hk])
                have Hk := Lib.hid hk
                clear hk
                go_wp2_with fail
                go_ret
                exact ⟨ret_bool (by rw [hte.out, hv.out, hko.out]; rfl), hbl⟩

end Go.Proofs.Ytgbcdfeflgnogaa
