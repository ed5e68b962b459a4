/- TreeOk of both: whether a tree is right. Conditions: none but a bound on the sizes. -/
import Derived.Test.YtjcgfbjdailgoaaTreeSize
import Derived.Test.YtjcgfbjdailgoaaFTree
import Derived.Test.YtjcgfbjdailgoaaFInt
import Derived.Test.YtjcgfbjdailgoaaConTag
import Derived.Test.YtjcgfbjdailgoaaWithin
namespace Go.Proofs.Ytjcgfbjdailgoaa
open Go.RowKit
set_option linter.unusedVariables false
set_option linter.unusedSimpArgs false
set_option maxHeartbeats 2000000

theorem specWordOk (n : Int) (w : World) : Calls Try.prog 176 #[.int .i64 n] w fun e w' => e = .returned (.bool (inB n (-1073741824) 1073741823)) ∧ w = w' := by
  go_enter Try.func176, Try.ntmps176
  go_wp2_with fail
  refine (specIn n (-1073741824) 1073741823 w).mono ?_
  rintro e w1 ⟨rfl, rfl⟩
  go_wp2_with fail
  go_ret
  exact ⟨rfl, rfl⟩
theorem implWordOk (n : Int) (w : World) : Calls Try.prog 180 #[.int .i64 n] w fun e w' => e = .returned (.bool (inB n (-1073741824) 1073741823)) ∧ w = w' := by
  go_enter Try.func180, Try.ntmps180
  go_wp2_with fail
  refine (implWithin n (-1073741824) 1073741823 w).mono ?_
  rintro e w1 ⟨rfl, rfl⟩
  go_wp2_with fail
  go_ret
  exact ⟨rfl, rfl⟩

/-- is one tree right by itself: np: how long its path is, nk: how many kids it has -/
def tree1 (tg : Int) (op n : Int) (s : ByteArray) (np nk : Nat) : Bool :=
  if op = 1 then decide (0 ≤ n) && (np == 0 && (s.toList.isEmpty && nk == 0))
  else if op = 2 then n == 0 && (np == 0 && (s.toList.isEmpty && nk == 0))
  else if op = 3 then n == 0 && (decide (0 ≤ tg) && (nk == 2 && decide (np ≤ 24)))
  else if op = 4 then inB n (-1073741824) 1073741823 && (s.toList.isEmpty && (nk == 2 && decide (np ≤ 24))) else false
mutual
/-- is a tree right, however many there are? -/
def GTree.okS (l : List GData) : GTree → Bool | .mk op n path s kids => (path.all fun x => decide (0 ≤ x)) && (tree1 (tagI (tagOf s l 0)) op n s path.length kids.length && GTree.okSL l kids)
def GTree.okSL (l : List GData) : List GTree → Bool | [] => true | t :: r => t.okS l && GTree.okSL l r
end
theorem GTree.okSL_all (l : List GData) : ∀ r : List GTree, GTree.okSL l r = r.all (GTree.okS l)
  | [] => rfl
  | t :: r => by simp only [GTree.okSL, List.all_cons, GTree.okSL_all l r]
theorem GTree.okS_eq (l : List GData) (t : GTree) : t.okS l = ((t.path.all fun x => decide (0 ≤ x)) && (tree1 (tagI (tagOf t.s l 0)) t.op t.n t.s t.path.length t.kids.length && t.kids.all (GTree.okS l))) := by
  cases t; simp only [GTree.okS, GTree.okSL_all, GTree.op, GTree.n, GTree.path, GTree.s, GTree.kids]
def GTree.ok (l : List GData) (t : GTree) : Bool := decide (t.nodes ≤ 300) && t.okS l
theorem all_take {α : Type} {p : α → Bool} {l : List α} {j : Nat} (h : j < l.length) : (l.take (j + 1)).all p = ((l.take j).all p && p l[j]) := by
  rw [take_snoc' l j h, List.all_append]; simp
theorem all_miss {α : Type} {p : α → Bool} {l : List α} {j : Nat} (h : j < l.length) (e : p l[j] = false) : l.all p = false := by
  rw [← Bool.not_eq_true, List.all_eq_true]; intro h2; have := h2 _ (List.getElem_mem h); rw [e] at this; cases this
theorem all_not_any {α : Type} (p : α → Bool) (l : List α) : l.any (fun x => !p x) = !l.all p := by
  induction l with
  | nil => rfl
  | cons x r ih => simp only [List.any_cons, List.all_cons, ih, Bool.not_and]

set_option maxRecDepth 20000 in
theorem specTree (k : Nat) : ∀ (l : List GData) (A : Option Addr) (c : Nat) (t : GTree) (A1 : Option Addr) (c1 : Nat) (A2 : Option Addr) (c2 : Nat) (w : World), t.bulk < k → consN l ≤ 1048576 → Sl w (Lt w.heap.size) 3 A c (l.map GData.toD) → GTree.At w (Lt w.heap.size) A1 c1 A2 c2 t →
    Calls Try.prog 109 #[.slice A l.length c, .agg #[.int .i64 t.op, .int .i64 t.n, .slice A1 t.path.length c1, .string t.s, .slice A2 t.kids.length c2]] w fun e w' => e = .returned (.bool (t.okS l)) ∧ Below w.heap.size w w' := by
  induction k with
  | zero => intros; omega
  | succ k ih =>
    intro l A c t A1 c1 A2 c2 w hk hm hs hat
    have hkl : t.kids.length ≤ 9223372036854775807 := by simpa using hat.2.2.2.2.len
    have hpl : t.path.length ≤ 9223372036854775807 := by simpa using hat.2.2.1.len
    have HH := Lib.hid (fun (j : Nat) (h : j < t.kids.length) => ih l A c t.kids[j])
    have HBJ := Lib.hid (fun (j : Nat) (h : j < t.kids.length) => bulkL_mem GTree.bulk t.kids t.kids[j] (List.getElem_mem h))
    have HBE := Lib.hid t.bulk_eq
    have HK := Lib.hid hk
    have HM := Lib.hid hm
    have S0 := Lib.hid hs
    have T0 := Lib.hid hat
    have HV := Lib.hid (t.okS_eq l)
    have R0 := Lib.hid (Row.new w 70 #[.int .i64 t.op, .int .i64 t.n, .slice A1 t.path.length c1, .string t.s, .slice A2 t.kids.length c2])
    have E0 := Lib.hid (show Below w.heap.size w (w.alloc (.cells #[.int .i64 t.op, .int .i64 t.n, .slice A1 t.path.length c1, .string t.s, .slice A2 t.kids.length c2] 70)) from (Below.refl _ _).alloc (Nat.le_refl _) _)
    clear ih hk hs hat hm
    go_enter Try.func109, Try.ntmps109
    go_wp2_with fail
    go_loopw [5] (fun i wr => ∃ (j : Nat), j ≤ t.kids.length ∧ i = .int .i64 j ∧ Hid ((t.kids.take j).all (GTree.okS l) = true) ∧ Hid (Row wr w.heap.size 70 #[.int .i64 t.op, .int .i64 t.n, .slice A1 t.path.length c1, .string t.s, .slice A2 t.kids.length c2]) ∧ Below w.heap.size w wr) (fun i _ => t.kids.length - (intOf i).toNat)
    case atStart => exact ⟨0, by omega, by go_num, Lib.hid (by simp), R0, E0.out⟩
    case round =>
      clear R0 E0
      obtain ⟨j, hj, rfl, HN, HR, hbl⟩ := hrel
      have hsz := hbl.size
      have hR := fun i => HR.out.cell i
      by_cases hlt : j < t.kids.length
      · obtain ⟨b, off, A3, c3, A4, c4, eA, hSb, g0, g1, g2, g3, g4, hatk⟩ := GTree.elem (T0.out.below hbl (Nat.le_refl _)).2.2.2.2 j hlt
        have HA := Lib.hid (hatk.below (Below.refl _ _) hsz)
        have HS := Lib.hid (S0.out.below hbl hsz)
        have HBj := Lib.hid (HBJ.out j hlt)
        subst eA
        clear hatk
        go_wp2_with fail
        refine (HH.out j hlt A3 c3 A4 c4 _ (by have := HK.out; have := HBE.out; have := HBj.out; omega) HM.out HS.out HA.out).mono ?_
        rintro e w1 ⟨rfl, hb1⟩
        have B1 := Lib.hid (hbl.trans (hb1.mono hsz))
        have R1 := Lib.hid (HR.out.below hb1 HR.out.lt)
        clear hb1
        cases he : (t.kids[j]).okS l
        · have HX := Lib.hid (all_miss (p := GTree.okS l) hlt he)
          clear he
          go_wp2_with fail
          go_ret
          exact ⟨ret_bool (by rw [HV.out, HX.out]; simp), B1.out⟩
        · have HN2 := Lib.hid (show (t.kids.take (j + 1)).all (GTree.okS l) = true by rw [all_take hlt, HN.out, he]; rfl)
          clear he
          go_wp2_with fail
          go_roundw
          case rel => exact ⟨j + 1, by omega, by go_num, HN2, R1, B1.out⟩
          case measure => simp [intOf]; omega
      · have HKO := Lib.hid (show t.kids.all (GTree.okS l) = true by have := HN.out; rwa [show j = t.kids.length by omega, List.take_length] at this)
        have HV2 := Lib.hid (show t.okS l = ((t.path.all fun x => decide (0 ≤ x)) && tree1 (tagI (tagOf t.s l 0)) t.op t.n t.s t.path.length t.kids.length) by rw [HV.out, HKO.out, Bool.and_true])
        clear HH HBJ HBE HK HN HKO HV
        go_wp2_with fail
        go_loopw [6] (fun i wr => ∃ (j : Nat), j ≤ t.path.length ∧ i = .int .i64 j ∧ Hid ((t.path.take j).all (fun x => decide (0 ≤ x)) = true) ∧ Hid (Row wr w.heap.size 70 #[.int .i64 t.op, .int .i64 t.n, .slice A1 t.path.length c1, .string t.s, .slice A2 t.kids.length c2]) ∧ Below w.heap.size w wr) (fun i _ => t.path.length - (intOf i).toNat)
        case atStart => exact ⟨0, by omega, by go_num, Lib.hid (by simp), HR, hbl⟩
        case round =>
          clear hR HR hbl hsz
          obtain ⟨j, hj, rfl, HN, HR, hbl⟩ := hrel
          have hsz := hbl.size
          have hR := fun i => HR.out.cell i
          by_cases hlt : j < t.path.length
          · obtain ⟨b, off, eA, hSb, g0, -⟩ := int_elem (T0.out.below hbl (Nat.le_refl _)).2.2.1 j hlt
            subst eA
            by_cases hx : t.path[j] < 0
            · have ex : decide (t.path[j] < 0) = true := decide_eq_true hx
              have HX := Lib.hid (all_miss (p := fun x : Int => decide (0 ≤ x)) hlt (decide_eq_false (by omega)))
              clear hx
              go_wp2_with fail
              go_ret
              exact ⟨ret_bool (by rw [HV2.out, HX.out]; rfl), hbl⟩
            · have ex : decide (t.path[j] < 0) = false := decide_eq_false hx
              have HN2 := Lib.hid (show (t.path.take (j + 1)).all (fun x => decide (0 ≤ x)) = true by rw [all_take hlt, HN.out, decide_eq_true (show 0 ≤ t.path[j] by omega)]; rfl)
              clear hx
              go_wp2_with fail
              go_roundw
              case rel => exact ⟨j + 1, by omega, by go_num, HN2, HR, hbl⟩
              case measure => simp [intOf]; omega
          · have HPO := Lib.hid (show t.path.all (fun x => decide (0 ≤ x)) = true by have := HN.out; rwa [show j = t.path.length by omega, List.take_length] at this)
            have HV3 := Lib.hid (show t.okS l = tree1 (tagI (tagOf t.s l 0)) t.op t.n t.s t.path.length t.kids.length by rw [HV2.out, HPO.out, Bool.true_and])
            clear HN HPO HV2
            cases o1 : (t.op == 1)
            · skip
              cases o2 : (t.op == 2)
              · skip
                cases o3 : (t.op == 3)
                · skip
                  cases o4 : (t.op == 4)
                  · skip
                    have hv := Lib.hid (show tree1 (tagI (tagOf t.s l 0)) t.op t.n t.s t.path.length t.kids.length = false from by
                      unfold tree1; simp only [beq_iff_eq, beq_eq_false_iff_ne, ne_eq] at o1 o2 o3 o4; simp [o1, o2, o3, o4])
                    go_wp2_with fail
                    all_goals
                      go_ret
                      exact ⟨ret_bool (by rw [HV3.out, hv.out]), hbl⟩
                  · skip
                    by_cases zk : t.kids.length = 0
                    · have zk1 : (t.kids.length == 0) = true := by simp [zk]
                      have zk2 : ((t.kids.length : Int) == 0) = true := by rw [beq_iff_eq]; omega
                      by_cases zp : t.path.length = 0
                      · have zp1 : (t.path.length == 0) = true := by simp [zp]
                        have zp2 : ((t.path.length : Int) == 0) = true := by rw [beq_iff_eq]; omega
                        cases es : (t.s.toList.isEmpty)
                        · skip
                          go_wp2_with fail
                          refine (specWordOk t.n _).mono ?_
                          rintro e w1 ⟨rfl, rfl⟩
                          generalize hib : inB t.n (-1073741824) 1073741823 = ib at *
                          cases ib
                          · skip
                            have hv := Lib.hid (show tree1 (tagI (tagOf t.s l 0)) t.op t.n t.s t.path.length t.kids.length = false from by
                              unfold tree1; simp only [beq_iff_eq, beq_eq_false_iff_ne, ne_eq] at o1 o2 o3 o4; simp [o1, o2, o3, o4, es, hib])
                            clear hib
                            go_wp2_with fail
                            go_ret
                            exact ⟨ret_bool (by rw [HV3.out, hv.out]), hbl⟩
                          · skip
                            have hv := Lib.hid (show tree1 (tagI (tagOf t.s l 0)) t.op t.n t.s t.path.length t.kids.length = false from by
                              unfold tree1; simp only [beq_iff_eq, beq_eq_false_iff_ne, ne_eq] at o1 o2 o3 o4; simp [o1, o2, o3, o4, es, hib])
                            clear hib
                            go_wp2_with fail
                            go_ret
                            exact ⟨ret_bool (by rw [HV3.out, hv.out]), hbl⟩
                        · skip
                          go_wp2_with fail
                          refine (specWordOk t.n _).mono ?_
                          rintro e w1 ⟨rfl, rfl⟩
                          generalize hib : inB t.n (-1073741824) 1073741823 = ib at *
                          cases ib
                          · skip
                            have hv := Lib.hid (show tree1 (tagI (tagOf t.s l 0)) t.op t.n t.s t.path.length t.kids.length = false from by
                              unfold tree1; simp only [beq_iff_eq, beq_eq_false_iff_ne, ne_eq] at o1 o2 o3 o4; simp [o1, o2, o3, o4, es, hib])
                            clear hib
                            go_wp2_with fail
                            go_ret
                            exact ⟨ret_bool (by rw [HV3.out, hv.out]), hbl⟩
                          · skip
                            have wk : ¬ t.kids.length = 2 := by omega
                            have wk1 : (t.kids.length == 2) = false := by simp [wk]
                            have wk2 : ((t.kids.length : Int) == 2) = false := by rw [beq_eq_false_iff_ne]; omega
                            have hv := Lib.hid (show tree1 (tagI (tagOf t.s l 0)) t.op t.n t.s t.path.length t.kids.length = false from by
                              unfold tree1; simp only [beq_iff_eq, beq_eq_false_iff_ne, ne_eq] at o1 o2 o3 o4; simp [o1, o2, o3, o4, es, hib, wk])
                            clear hib
                            go_wp2_with fail
                            go_ret
                            exact ⟨ret_bool (by rw [HV3.out, hv.out]), hbl⟩
                      · have zp1 : (t.path.length == 0) = false := by simp [zp]
                        have zp2 : ((t.path.length : Int) == 0) = false := by rw [beq_eq_false_iff_ne]; omega
                        go_wp2_with fail
                        refine (specWordOk t.n _).mono ?_
                        rintro e w1 ⟨rfl, rfl⟩
                        generalize hib : inB t.n (-1073741824) 1073741823 = ib at *
                        cases ib
                        · skip
                          have hv := Lib.hid (show tree1 (tagI (tagOf t.s l 0)) t.op t.n t.s t.path.length t.kids.length = false from by
                            unfold tree1; simp only [beq_iff_eq, beq_eq_false_iff_ne, ne_eq] at o1 o2 o3 o4; simp [o1, o2, o3, o4, hib])
                          clear hib
                          go_wp2_with fail
                          go_ret
                          exact ⟨ret_bool (by rw [HV3.out, hv.out]), hbl⟩
                        · skip
                          cases es : (t.s.toList.isEmpty)
                          · skip
                            have hv := Lib.hid (show tree1 (tagI (tagOf t.s l 0)) t.op t.n t.s t.path.length t.kids.length = false from by
                              unfold tree1; simp only [beq_iff_eq, beq_eq_false_iff_ne, ne_eq] at o1 o2 o3 o4; simp [o1, o2, o3, o4, hib, es])
                            clear hib
                            go_wp2_with fail
                            go_ret
                            exact ⟨ret_bool (by rw [HV3.out, hv.out]), hbl⟩
                          · skip
                            have wk : ¬ t.kids.length = 2 := by omega
                            have wk1 : (t.kids.length == 2) = false := by simp [wk]
                            have wk2 : ((t.kids.length : Int) == 2) = false := by rw [beq_eq_false_iff_ne]; omega
                            have hv := Lib.hid (show tree1 (tagI (tagOf t.s l 0)) t.op t.n t.s t.path.length t.kids.length = false from by
                              unfold tree1; simp only [beq_iff_eq, beq_eq_false_iff_ne, ne_eq] at o1 o2 o3 o4; simp [o1, o2, o3, o4, hib, es, wk])
                            clear hib
                            go_wp2_with fail
                            go_ret
                            exact ⟨ret_bool (by rw [HV3.out, hv.out]), hbl⟩
                    · have zk1 : (t.kids.length == 0) = false := by simp [zk]
                      have zk2 : ((t.kids.length : Int) == 0) = false := by rw [beq_eq_false_iff_ne]; omega
                      go_wp2_with fail
                      refine (specWordOk t.n _).mono ?_
                      rintro e w1 ⟨rfl, rfl⟩
                      generalize hib : inB t.n (-1073741824) 1073741823 = ib at *
                      cases ib
                      · skip
                        have hv := Lib.hid (show tree1 (tagI (tagOf t.s l 0)) t.op t.n t.s t.path.length t.kids.length = false from by
                          unfold tree1; simp only [beq_iff_eq, beq_eq_false_iff_ne, ne_eq] at o1 o2 o3 o4; simp [o1, o2, o3, o4, hib])
                        clear hib
                        go_wp2_with fail
                        go_ret
                        exact ⟨ret_bool (by rw [HV3.out, hv.out]), hbl⟩
                      · skip
                        cases es : (t.s.toList.isEmpty)
                        · skip
                          have hv := Lib.hid (show tree1 (tagI (tagOf t.s l 0)) t.op t.n t.s t.path.length t.kids.length = false from by
                            unfold tree1; simp only [beq_iff_eq, beq_eq_false_iff_ne, ne_eq] at o1 o2 o3 o4; simp [o1, o2, o3, o4, hib, es])
                          clear hib
                          go_wp2_with fail
                          go_ret
                          exact ⟨ret_bool (by rw [HV3.out, hv.out]), hbl⟩
                        · skip
                          by_cases wk : t.kids.length = 2
                          · have wk1 : (t.kids.length == 2) = true := by simp [wk]
                            have wk2 : ((t.kids.length : Int) == 2) = true := by rw [beq_iff_eq]; omega
                            by_cases pp : t.path.length ≤ 24
                            · have pp1 : decide ((t.path.length : Int) ≤ 24) = true := decide_eq_true (by omega)
                              have hv := Lib.hid (show tree1 (tagI (tagOf t.s l 0)) t.op t.n t.s t.path.length t.kids.length = true from by
                                unfold tree1; simp only [beq_iff_eq, beq_eq_false_iff_ne, ne_eq] at o1 o2 o3 o4; simp [o1, o2, o3, o4, hib, es, wk, pp])
                              clear hib
                              go_wp2_with fail
                              go_ret
                              exact ⟨ret_bool (by rw [HV3.out, hv.out]), hbl⟩
                            · have pp1 : decide ((t.path.length : Int) ≤ 24) = false := decide_eq_false (by omega)
                              have hv := Lib.hid (show tree1 (tagI (tagOf t.s l 0)) t.op t.n t.s t.path.length t.kids.length = false from by
                                unfold tree1; simp only [beq_iff_eq, beq_eq_false_iff_ne, ne_eq] at o1 o2 o3 o4; simp [o1, o2, o3, o4, hib, es, wk, pp])
                              clear hib
                              go_wp2_with fail
                              go_ret
                              exact ⟨ret_bool (by rw [HV3.out, hv.out]), hbl⟩
                          · have wk1 : (t.kids.length == 2) = false := by simp [wk]
                            have wk2 : ((t.kids.length : Int) == 2) = false := by rw [beq_eq_false_iff_ne]; omega
                            have hv := Lib.hid (show tree1 (tagI (tagOf t.s l 0)) t.op t.n t.s t.path.length t.kids.length = false from by
                              unfold tree1; simp only [beq_iff_eq, beq_eq_false_iff_ne, ne_eq] at o1 o2 o3 o4; simp [o1, o2, o3, o4, hib, es, wk])
                            clear hib
                            go_wp2_with fail
                            go_ret
                            exact ⟨ret_bool (by rw [HV3.out, hv.out]), hbl⟩
                · skip
                  by_cases zk : t.kids.length = 0
                  · have zk1 : (t.kids.length == 0) = true := by simp [zk]
                    have zk2 : ((t.kids.length : Int) == 0) = true := by rw [beq_iff_eq]; omega
                    by_cases zp : t.path.length = 0
                    · have zp1 : (t.path.length == 0) = true := by simp [zp]
                      have zp2 : ((t.path.length : Int) == 0) = true := by rw [beq_iff_eq]; omega
                      cases es : (t.s.toList.isEmpty)
                      · skip
                        have HS := Lib.hid (S0.out.below hbl hsz)
                        go_wp2_with fail
                        refine (specConTag l A c t.s _ HM.out HS.out).mono ?_
                        rintro e w1 ⟨rfl, hb1⟩
                        have B1 := Lib.hid (hbl.trans (hb1.mono hsz))
                        have R1 := Lib.hid (HR.out.below hb1 HR.out.lt)
                        clear hR hb1
                        have hR := fun i => R1.out.cell i
                        generalize tagI (tagOf t.s l 0) = tg at *
                        by_cases tt : 0 ≤ tg
                        · have tt1 : decide (0 ≤ tg) = true := decide_eq_true tt
                          cases en : (t.n == 0)
                          · skip
                            have hv := Lib.hid (show tree1 tg t.op t.n t.s t.path.length t.kids.length = false from by
                              unfold tree1; simp only [beq_iff_eq, beq_eq_false_iff_ne, ne_eq] at o1 o2 o3 en; simp [o1, o2, o3, es, tt, en])
                            go_wp2_with fail
                            go_ret
                            exact ⟨ret_bool (by rw [HV3.out, hv.out]), B1.out⟩
                          · skip
                            have wk : ¬ t.kids.length = 2 := by omega
                            have wk1 : (t.kids.length == 2) = false := by simp [wk]
                            have wk2 : ((t.kids.length : Int) == 2) = false := by rw [beq_eq_false_iff_ne]; omega
                            have hv := Lib.hid (show tree1 tg t.op t.n t.s t.path.length t.kids.length = false from by
                              unfold tree1; simp only [beq_iff_eq, beq_eq_false_iff_ne, ne_eq] at o1 o2 o3 en; simp [o1, o2, o3, es, tt, en, wk])
                            go_wp2_with fail
                            go_ret
                            exact ⟨ret_bool (by rw [HV3.out, hv.out]), B1.out⟩
                        · have tt1 : decide (0 ≤ tg) = false := decide_eq_false tt
                          have hv := Lib.hid (show tree1 tg t.op t.n t.s t.path.length t.kids.length = false from by
                            unfold tree1; simp only [beq_iff_eq, beq_eq_false_iff_ne, ne_eq] at o1 o2 o3; simp [o1, o2, o3, es, tt])
                          go_wp2_with fail
                          go_ret
                          exact ⟨ret_bool (by rw [HV3.out, hv.out]), B1.out⟩
                      · skip
                        have HS := Lib.hid (S0.out.below hbl hsz)
                        go_wp2_with fail
                        refine (specConTag l A c t.s _ HM.out HS.out).mono ?_
                        rintro e w1 ⟨rfl, hb1⟩
                        have B1 := Lib.hid (hbl.trans (hb1.mono hsz))
                        have R1 := Lib.hid (HR.out.below hb1 HR.out.lt)
                        clear hR hb1
                        have hR := fun i => R1.out.cell i
                        generalize tagI (tagOf t.s l 0) = tg at *
                        by_cases tt : 0 ≤ tg
                        · have tt1 : decide (0 ≤ tg) = true := decide_eq_true tt
                          cases en : (t.n == 0)
                          · skip
                            have hv := Lib.hid (show tree1 tg t.op t.n t.s t.path.length t.kids.length = false from by
                              unfold tree1; simp only [beq_iff_eq, beq_eq_false_iff_ne, ne_eq] at o1 o2 o3 en; simp [o1, o2, o3, es, tt, en])
                            go_wp2_with fail
                            go_ret
                            exact ⟨ret_bool (by rw [HV3.out, hv.out]), B1.out⟩
                          · skip
                            have wk : ¬ t.kids.length = 2 := by omega
                            have wk1 : (t.kids.length == 2) = false := by simp [wk]
                            have wk2 : ((t.kids.length : Int) == 2) = false := by rw [beq_eq_false_iff_ne]; omega
                            have hv := Lib.hid (show tree1 tg t.op t.n t.s t.path.length t.kids.length = false from by
                              unfold tree1; simp only [beq_iff_eq, beq_eq_false_iff_ne, ne_eq] at o1 o2 o3 en; simp [o1, o2, o3, es, tt, en, wk])
                            go_wp2_with fail
                            go_ret
                            exact ⟨ret_bool (by rw [HV3.out, hv.out]), B1.out⟩
                        · have tt1 : decide (0 ≤ tg) = false := decide_eq_false tt
                          have hv := Lib.hid (show tree1 tg t.op t.n t.s t.path.length t.kids.length = false from by
                            unfold tree1; simp only [beq_iff_eq, beq_eq_false_iff_ne, ne_eq] at o1 o2 o3; simp [o1, o2, o3, es, tt])
                          go_wp2_with fail
                          go_ret
                          exact ⟨ret_bool (by rw [HV3.out, hv.out]), B1.out⟩
                    · have zp1 : (t.path.length == 0) = false := by simp [zp]
                      have zp2 : ((t.path.length : Int) == 0) = false := by rw [beq_eq_false_iff_ne]; omega
                      have HS := Lib.hid (S0.out.below hbl hsz)
                      go_wp2_with fail
                      refine (specConTag l A c t.s _ HM.out HS.out).mono ?_
                      rintro e w1 ⟨rfl, hb1⟩
                      have B1 := Lib.hid (hbl.trans (hb1.mono hsz))
                      have R1 := Lib.hid (HR.out.below hb1 HR.out.lt)
                      clear hR hb1
                      have hR := fun i => R1.out.cell i
                      generalize tagI (tagOf t.s l 0) = tg at *
                      by_cases tt : 0 ≤ tg
                      · have tt1 : decide (0 ≤ tg) = true := decide_eq_true tt
                        cases en : (t.n == 0)
                        · skip
                          have hv := Lib.hid (show tree1 tg t.op t.n t.s t.path.length t.kids.length = false from by
                            unfold tree1; simp only [beq_iff_eq, beq_eq_false_iff_ne, ne_eq] at o1 o2 o3 en; simp [o1, o2, o3, tt, en])
                          go_wp2_with fail
                          go_ret
                          exact ⟨ret_bool (by rw [HV3.out, hv.out]), B1.out⟩
                        · skip
                          have wk : ¬ t.kids.length = 2 := by omega
                          have wk1 : (t.kids.length == 2) = false := by simp [wk]
                          have wk2 : ((t.kids.length : Int) == 2) = false := by rw [beq_eq_false_iff_ne]; omega
                          have hv := Lib.hid (show tree1 tg t.op t.n t.s t.path.length t.kids.length = false from by
                            unfold tree1; simp only [beq_iff_eq, beq_eq_false_iff_ne, ne_eq] at o1 o2 o3 en; simp [o1, o2, o3, tt, en, wk])
                          go_wp2_with fail
                          go_ret
                          exact ⟨ret_bool (by rw [HV3.out, hv.out]), B1.out⟩
                      · have tt1 : decide (0 ≤ tg) = false := decide_eq_false tt
                        have hv := Lib.hid (show tree1 tg t.op t.n t.s t.path.length t.kids.length = false from by
                          unfold tree1; simp only [beq_iff_eq, beq_eq_false_iff_ne, ne_eq] at o1 o2 o3; simp [o1, o2, o3, tt])
                        go_wp2_with fail
                        go_ret
                        exact ⟨ret_bool (by rw [HV3.out, hv.out]), B1.out⟩
                  · have zk1 : (t.kids.length == 0) = false := by simp [zk]
                    have zk2 : ((t.kids.length : Int) == 0) = false := by rw [beq_eq_false_iff_ne]; omega
                    have HS := Lib.hid (S0.out.below hbl hsz)
                    go_wp2_with fail
                    refine (specConTag l A c t.s _ HM.out HS.out).mono ?_
                    rintro e w1 ⟨rfl, hb1⟩
                    have B1 := Lib.hid (hbl.trans (hb1.mono hsz))
                    have R1 := Lib.hid (HR.out.below hb1 HR.out.lt)
                    clear hR hb1
                    have hR := fun i => R1.out.cell i
                    generalize tagI (tagOf t.s l 0) = tg at *
                    by_cases tt : 0 ≤ tg
                    · have tt1 : decide (0 ≤ tg) = true := decide_eq_true tt
                      cases en : (t.n == 0)
                      · skip
                        have hv := Lib.hid (show tree1 tg t.op t.n t.s t.path.length t.kids.length = false from by
                          unfold tree1; simp only [beq_iff_eq, beq_eq_false_iff_ne, ne_eq] at o1 o2 o3 en; simp [o1, o2, o3, tt, en])
                        go_wp2_with fail
                        go_ret
                        exact ⟨ret_bool (by rw [HV3.out, hv.out]), B1.out⟩
                      · skip
                        by_cases wk : t.kids.length = 2
                        · have wk1 : (t.kids.length == 2) = true := by simp [wk]
                          have wk2 : ((t.kids.length : Int) == 2) = true := by rw [beq_iff_eq]; omega
                          by_cases pp : t.path.length ≤ 24
                          · have pp1 : decide ((t.path.length : Int) ≤ 24) = true := decide_eq_true (by omega)
                            have hv := Lib.hid (show tree1 tg t.op t.n t.s t.path.length t.kids.length = true from by
                              unfold tree1; simp only [beq_iff_eq, beq_eq_false_iff_ne, ne_eq] at o1 o2 o3 en; simp [o1, o2, o3, tt, en, wk, pp])
                            go_wp2_with fail
                            go_ret
                            exact ⟨ret_bool (by rw [HV3.out, hv.out]), B1.out⟩
                          · have pp1 : decide ((t.path.length : Int) ≤ 24) = false := decide_eq_false (by omega)
                            have hv := Lib.hid (show tree1 tg t.op t.n t.s t.path.length t.kids.length = false from by
                              unfold tree1; simp only [beq_iff_eq, beq_eq_false_iff_ne, ne_eq] at o1 o2 o3 en; simp [o1, o2, o3, tt, en, wk, pp])
                            go_wp2_with fail
                            go_ret
                            exact ⟨ret_bool (by rw [HV3.out, hv.out]), B1.out⟩
                        · have wk1 : (t.kids.length == 2) = false := by simp [wk]
                          have wk2 : ((t.kids.length : Int) == 2) = false := by rw [beq_eq_false_iff_ne]; omega
                          have hv := Lib.hid (show tree1 tg t.op t.n t.s t.path.length t.kids.length = false from by
                            unfold tree1; simp only [beq_iff_eq, beq_eq_false_iff_ne, ne_eq] at o1 o2 o3 en; simp [o1, o2, o3, tt, en, wk])
                          go_wp2_with fail
                          go_ret
                          exact ⟨ret_bool (by rw [HV3.out, hv.out]), B1.out⟩
                    · have tt1 : decide (0 ≤ tg) = false := decide_eq_false tt
                      have hv := Lib.hid (show tree1 tg t.op t.n t.s t.path.length t.kids.length = false from by
                        unfold tree1; simp only [beq_iff_eq, beq_eq_false_iff_ne, ne_eq] at o1 o2 o3; simp [o1, o2, o3, tt])
                      go_wp2_with fail
                      go_ret
                      exact ⟨ret_bool (by rw [HV3.out, hv.out]), B1.out⟩
              · skip
                by_cases zk : t.kids.length = 0
                · have zk1 : (t.kids.length == 0) = true := by simp [zk]
                  have zk2 : ((t.kids.length : Int) == 0) = true := by rw [beq_iff_eq]; omega
                  by_cases zp : t.path.length = 0
                  · have zp1 : (t.path.length == 0) = true := by simp [zp]
                    have zp2 : ((t.path.length : Int) == 0) = true := by rw [beq_iff_eq]; omega
                    cases es : (t.s.toList.isEmpty)
                    · skip
                      have hv := Lib.hid (show tree1 (tagI (tagOf t.s l 0)) t.op t.n t.s t.path.length t.kids.length = false from by
                        unfold tree1; simp only [beq_iff_eq, beq_eq_false_iff_ne, ne_eq] at o1 o2; simp [o1, o2, zk, zp, es])
                      clear zk zp
                      go_wp2_with fail
                      all_goals
                        go_ret
                        exact ⟨ret_bool (by rw [HV3.out, hv.out]), hbl⟩
                    · skip
                      cases en : (t.n == 0)
                      · skip
                        have hv := Lib.hid (show tree1 (tagI (tagOf t.s l 0)) t.op t.n t.s t.path.length t.kids.length = false from by
                          unfold tree1; simp only [beq_iff_eq, beq_eq_false_iff_ne, ne_eq] at o1 o2 en; simp [o1, o2, zk, zp, es, en])
                        clear zk zp
                        go_wp2_with fail
                        all_goals
                          go_ret
                          exact ⟨ret_bool (by rw [HV3.out, hv.out]), hbl⟩
                      · skip
                        have hv := Lib.hid (show tree1 (tagI (tagOf t.s l 0)) t.op t.n t.s t.path.length t.kids.length = true from by
                          unfold tree1; simp only [beq_iff_eq, beq_eq_false_iff_ne, ne_eq] at o1 o2 en; simp [o1, o2, zk, zp, es, en])
                        clear zk zp
                        go_wp2_with fail
                        all_goals
                          go_ret
                          exact ⟨ret_bool (by rw [HV3.out, hv.out]), hbl⟩
                  · have zp1 : (t.path.length == 0) = false := by simp [zp]
                    have zp2 : ((t.path.length : Int) == 0) = false := by rw [beq_eq_false_iff_ne]; omega
                    have hv := Lib.hid (show tree1 (tagI (tagOf t.s l 0)) t.op t.n t.s t.path.length t.kids.length = false from by
                      unfold tree1; simp only [beq_iff_eq, beq_eq_false_iff_ne, ne_eq] at o1 o2; simp [o1, o2, zk, zp])
                    clear zk zp
                    go_wp2_with fail
                    all_goals
                      go_ret
                      exact ⟨ret_bool (by rw [HV3.out, hv.out]), hbl⟩
                · have zk1 : (t.kids.length == 0) = false := by simp [zk]
                  have zk2 : ((t.kids.length : Int) == 0) = false := by rw [beq_eq_false_iff_ne]; omega
                  have hv := Lib.hid (show tree1 (tagI (tagOf t.s l 0)) t.op t.n t.s t.path.length t.kids.length = false from by
                    unfold tree1; simp only [beq_iff_eq, beq_eq_false_iff_ne, ne_eq] at o1 o2; simp [o1, o2, zk])
                  clear zk
                  go_wp2_with fail
                  all_goals
                    go_ret
                    exact ⟨ret_bool (by rw [HV3.out, hv.out]), hbl⟩
            · skip
              by_cases zk : t.kids.length = 0
              · have zk1 : (t.kids.length == 0) = true := by simp [zk]
                have zk2 : ((t.kids.length : Int) == 0) = true := by rw [beq_iff_eq]; omega
                by_cases zp : t.path.length = 0
                · have zp1 : (t.path.length == 0) = true := by simp [zp]
                  have zp2 : ((t.path.length : Int) == 0) = true := by rw [beq_iff_eq]; omega
                  cases es : (t.s.toList.isEmpty)
                  · skip
                    have hv := Lib.hid (show tree1 (tagI (tagOf t.s l 0)) t.op t.n t.s t.path.length t.kids.length = false from by
                      unfold tree1; simp only [beq_iff_eq, beq_eq_false_iff_ne, ne_eq] at o1; simp [o1, zk, zp, es])
                    clear zk zp
                    go_wp2_with fail
                    all_goals
                      go_ret
                      exact ⟨ret_bool (by rw [HV3.out, hv.out]), hbl⟩
                  · skip
                    by_cases nn : 0 ≤ t.n
                    · have nn1 : decide (0 ≤ t.n) = true := decide_eq_true nn
                      have hv := Lib.hid (show tree1 (tagI (tagOf t.s l 0)) t.op t.n t.s t.path.length t.kids.length = true from by
                        unfold tree1; simp only [beq_iff_eq, beq_eq_false_iff_ne, ne_eq] at o1; simp [o1, zk, zp, es, nn])
                      clear zk zp nn
                      go_wp2_with fail
                      all_goals
                        go_ret
                        exact ⟨ret_bool (by rw [HV3.out, hv.out]), hbl⟩
                    · have nn1 : decide (0 ≤ t.n) = false := decide_eq_false nn
                      have hv := Lib.hid (show tree1 (tagI (tagOf t.s l 0)) t.op t.n t.s t.path.length t.kids.length = false from by
                        unfold tree1; simp only [beq_iff_eq, beq_eq_false_iff_ne, ne_eq] at o1; simp [o1, zk, zp, es, nn])
                      clear zk zp nn
                      go_wp2_with fail
                      all_goals
                        go_ret
                        exact ⟨ret_bool (by rw [HV3.out, hv.out]), hbl⟩
                · have zp1 : (t.path.length == 0) = false := by simp [zp]
                  have zp2 : ((t.path.length : Int) == 0) = false := by rw [beq_eq_false_iff_ne]; omega
                  have hv := Lib.hid (show tree1 (tagI (tagOf t.s l 0)) t.op t.n t.s t.path.length t.kids.length = false from by
                    unfold tree1; simp only [beq_iff_eq, beq_eq_false_iff_ne, ne_eq] at o1; simp [o1, zk, zp])
                  clear zk zp
                  go_wp2_with fail
                  all_goals
                    go_ret
                    exact ⟨ret_bool (by rw [HV3.out, hv.out]), hbl⟩
              · have zk1 : (t.kids.length == 0) = false := by simp [zk]
                have zk2 : ((t.kids.length : Int) == 0) = false := by rw [beq_eq_false_iff_ne]; omega
                have hv := Lib.hid (show tree1 (tagI (tagOf t.s l 0)) t.op t.n t.s t.path.length t.kids.length = false from by
                  unfold tree1; simp only [beq_iff_eq, beq_eq_false_iff_ne, ne_eq] at o1; simp [o1, zk])
                clear zk
                go_wp2_with fail
                all_goals
                  go_ret
                  exact ⟨ret_bool (by rw [HV3.out, hv.out]), hbl⟩

theorem tree1_long {tg op n : Int} {s : ByteArray} {np nk : Nat} (h : 24 < np) : tree1 tg op n s np nk = false := by
  have h0 : ¬ np = 0 := by omega
  have h1 : ¬ np ≤ 24 := by omega
  unfold tree1
  split
  · simp [h0]
  · split
    · simp [h0]
    · split
      · simp [h1]
      · split <;> simp [h1]
theorem all_neg (l : List Int) : (l.any fun x => decide (x < 0)) = !(l.all fun x => decide (0 ≤ x)) := by
  rw [← all_not_any]
  congr 1
  funext x
  by_cases h : x < 0
  · rw [decide_eq_true h, decide_eq_false (by omega)]; rfl
  · rw [decide_eq_false h, decide_eq_true (by omega)]; rfl
/-- the closure that asks whether a number is below 0 -/
theorem implTreeNeg (x : Int) (w : World) : Calls Try.prog 178 #[.int .i64 x] w fun e w' => e = .returned (.bool (decide (x < 0))) ∧ Below w.heap.size w w' := by
  go_enter Try.func178, Try.ntmps178
  go_wp2_with fail
  go_ret
  exact ⟨rfl, Below.refl _ _⟩
def TreeTo (k : Nat) : Prop := ∀ (l : List GData) (A : Option Addr) (c : Nat) (t : GTree) (A1 : Option Addr) (c1 : Nat) (A2 : Option Addr) (c2 : Nat) (w : World), t.bulk < k → consN l ≤ 1048576 → Sl w (Lt w.heap.size) 3 A c (l.map GData.toD) → GTree.At w (Lt w.heap.size) A1 c1 A2 c2 t →
    Calls Try.prog 113 #[.slice A l.length c, .agg #[.int .i64 t.op, .int .i64 t.n, .slice A1 t.path.length c1, .string t.s, .slice A2 t.kids.length c2]] w fun e w' => e = .returned (.bool (t.okS l)) ∧ Below w.heap.size w w'
set_option maxRecDepth 20000 in
/-- the closure that asks whether a kid is wrong -/
theorem implTreeKid (k : Nat) (HH : TreeTo k) (l : List GData) (A : Option Addr) (c : Nat) (b : Nat) (x : GTree) (A1 : Option Addr) (c1 : Nat) (A2 : Option Addr) (c2 : Nat) (w : World) (hk : x.bulk < k) (hm : consN l ≤ 1048576) (hc : w.cell? ⟨b, 0, none⟩ = some (.slice A l.length c)) (hb : b < w.heap.size)
    (hs : Sl w (Lt w.heap.size) 3 A c (l.map GData.toD)) (hat : GTree.At w (Lt w.heap.size) A1 c1 A2 c2 x) :
    Calls Try.prog 182 #[.agg #[.int .i64 x.op, .int .i64 x.n, .slice A1 x.path.length c1, .string x.s, .slice A2 x.kids.length c2], .pointer (some ⟨b, 0, none⟩)] w fun e w' => e = .returned (.bool (!x.okS l)) ∧ Below w.heap.size w w' := by
  have E0 := Lib.hid (show Below w.heap.size w (w.alloc (.cells #[.int .i64 x.op, .int .i64 x.n, .slice A1 x.path.length c1, .string x.s, .slice A2 x.kids.length c2] 70)) from (Below.refl _ _).alloc (Nat.le_refl _) _)
  have hc2 := (E0.out.cell (p := ⟨b, 0, none⟩) hb).trans hc
  have HC := Lib.hid (HH l A c x A1 c1 A2 c2 (w.alloc (.cells #[.int .i64 x.op, .int .i64 x.n, .slice A1 x.path.length c1, .string x.s, .slice A2 x.kids.length c2] 70)) hk hm (hs.keep (keep_below E0.out E0.out.size)) (hat.below E0.out E0.out.size))
  clear HH hs hat
  go_enter Try.func182, Try.ntmps182
  go_wp2_with fail
  refine HC.out.mono ?_
  rintro e w1 ⟨rfl, hb1⟩
  have B1 := E0.out.trans (hb1.mono E0.out.size)
  go_wp2_with fail
  go_ret
  exact ⟨rfl, B1⟩
set_option maxRecDepth 20000 in
theorem implTree (k : Nat) : TreeTo k := by
  induction k with
  | zero => intro l A c t A1 c1 A2 c2 w hk; omega
  | succ k ih =>
    intro l A c t A1 c1 A2 c2 w hk hm hs hat
    have hkl : t.kids.length ≤ 9223372036854775807 := by simpa using hat.2.2.2.2.len
    have hpl : t.path.length ≤ 9223372036854775807 := by simpa using hat.2.2.1.len
    have IH := Lib.hid ih
    have HBJ := Lib.hid (show ∀ x ∈ t.kids, x.bulk < k from fun x hx => by have := bulkL_mem GTree.bulk t.kids x hx; have := t.bulk_eq; omega)
    have HM := Lib.hid hm
    have S0 := Lib.hid hs
    have T0 := Lib.hid hat
    have HV := Lib.hid (t.okS_eq l)
    have E1 := Lib.hid (show Below w.heap.size w ((w.alloc (.cells #[.slice A l.length c] 66)).alloc (.cells #[.int .i64 t.op, .int .i64 t.n, .slice A1 t.path.length c1, .string t.s, .slice A2 t.kids.length c2] 70)) from ((Below.refl _ _).alloc (Nat.le_refl _) _).alloc (by simp) _)
    have RL0 := Lib.hid ((Row.new w 66 #[.slice A l.length c]).alloc (.cells #[.int .i64 t.op, .int .i64 t.n, .slice A1 t.path.length c1, .string t.s, .slice A2 t.kids.length c2] 70))
    have RT0 := Lib.hid (Row.new' (w.alloc (.cells #[.slice A l.length c] 66)) 70 #[.int .i64 t.op, .int .i64 t.n, .slice A1 t.path.length c1, .string t.s, .slice A2 t.kids.length c2] (g := w.heap.size + 1) (by simp))
    clear ih hk hs hat hm
    by_cases pp : t.path.length ≤ 24
    rotate_left
    · have hv := Lib.hid (show t.okS l = false by rw [HV.out, tree1_long (by omega)]; simp)
      go_enter Try.func113, Try.ntmps113
      go_wp2_with fail
      go_ret
      exact ⟨ret_bool hv.out.symm, E1.out⟩
    have ppi : (t.path.length : Int) ≤ 24 := by omega
    go_enter Try.func113, Try.ntmps113
    go_wp2_with fail
    refine (containsFuncint 178 (enters Try.func178 (by kernel_rfl) (by kernel_rfl)) #[] (fun x => decide (x < 0)) t.path A1 c1 _ (T0.out.below E1.out E1.out.size).2.2.1
      (fun x hx w2 hb2 _ => implTreeNeg x w2)).mono ?_
    rintro e w1 ⟨rfl, hb1⟩
    have B1 := Lib.hid (E1.out.trans (hb1.mono E1.out.size))
    have RL1 := Lib.hid (RL0.out.below hb1 RL0.out.lt)
    have RT1 := Lib.hid (RT0.out.below hb1 RT0.out.lt)
    have hR := fun i => RT1.out.cell i
    have hL := fun i => RL1.out.cell i
    clear hb1
    rw [all_neg]
    cases hpa : (t.path.all fun x => decide (0 ≤ x))
    · have hv := Lib.hid (show t.okS l = false by rw [HV.out, hpa]; rfl)
      clear hpa
      go_wp2_with fail
      go_ret
      exact ⟨ret_bool hv.out.symm, B1.out⟩
    have HV3 := Lib.hid (show t.okS l = (tree1 (tagI (tagOf t.s l 0)) t.op t.n t.s t.path.length t.kids.length && t.kids.all (GTree.okS l)) by rw [HV.out, hpa, Bool.true_and])
    clear hpa HV
    cases o1 : (t.op == 1)
    · skip
      cases o2 : (t.op == 2)
      · skip
        cases o3 : (t.op == 3)
        · skip
          cases o4 : (t.op == 4)
          · skip
            have hv := Lib.hid (show tree1 (tagI (tagOf t.s l 0)) t.op t.n t.s t.path.length t.kids.length = false from by
              unfold tree1; simp only [beq_iff_eq, beq_eq_false_iff_ne, ne_eq] at o1 o2 o3 o4; simp [o1, o2, o3, o4])
            try clear hib
            go_wp2_with fail
            all_goals
              go_ret
              exact ⟨ret_bool (by rw [HV3.out, hv.out]; rfl), B1.out⟩
          · skip
            go_wp2_with fail
            refine (implWordOk t.n _).mono ?_
            rintro e w2 ⟨rfl, rfl⟩
            generalize hib : inB t.n (-1073741824) 1073741823 = ib at *
            cases ib
            · skip
              have hv := Lib.hid (show tree1 (tagI (tagOf t.s l 0)) t.op t.n t.s t.path.length t.kids.length = false from by
                unfold tree1; simp only [beq_iff_eq, beq_eq_false_iff_ne, ne_eq] at o1 o2 o3 o4; simp [o1, o2, o3, o4, hib])
              try clear hib
              go_wp2_with fail
              all_goals
                go_ret
                exact ⟨ret_bool (by rw [HV3.out, hv.out]; rfl), B1.out⟩
            · skip
              cases es : (t.s.toList.isEmpty)
              · skip
                have hv := Lib.hid (show tree1 (tagI (tagOf t.s l 0)) t.op t.n t.s t.path.length t.kids.length = false from by
                  unfold tree1; simp only [beq_iff_eq, beq_eq_false_iff_ne, ne_eq] at o1 o2 o3 o4; simp [o1, o2, o3, o4, hib, es])
                try clear hib
                go_wp2_with fail
                all_goals
                  go_ret
                  exact ⟨ret_bool (by rw [HV3.out, hv.out]; rfl), B1.out⟩
              · skip
                by_cases wk : t.kids.length = 2
                · have wk1 : (t.kids.length == 2) = true := by simp [wk]
                  have wk2 : ((t.kids.length : Int) == 2) = true := by rw [beq_iff_eq]; omega
                  have hv := Lib.hid (show tree1 (tagI (tagOf t.s l 0)) t.op t.n t.s t.path.length t.kids.length = true from by
                    unfold tree1; simp only [beq_iff_eq, beq_eq_false_iff_ne, ne_eq] at o1 o2 o3 o4; simp [o1, o2, o3, o4, hib, es, pp, wk])
                  clear wk wk1
                  try clear hib
                  go_wp2_with fail
                  refine (containsFuncTree 182 (enters Try.func182 (by kernel_rfl) (by kernel_rfl)) #[.pointer (some ⟨w.heap.size, 0, none⟩)] (fun x => !x.okS l) t.kids A2 c2 _ (T0.out.below B1.out B1.out.size).2.2.2.2
                    (fun x hx A3 c3 A4 c4 w3 hb3 hat3 => by
                      have R3 := RL1.out.below hb3 RL1.out.lt
                      exact implTreeKid k IH.out l A c w.heap.size x A3 c3 A4 c4 w3 (HBJ.out x hx) HM.out (R3.cell 0) R3.lt (S0.out.below (B1.out.trans (hb3.mono B1.out.size)) (Nat.le_trans B1.out.size hb3.size)) hat3)).mono ?_
                  rintro e w3 ⟨rfl, hb3⟩
                  rw [all_not_any]
                  have B3 := Lib.hid (B1.out.trans (hb3.mono B1.out.size))
                  clear hb3
                  go_wp2_with fail
                  go_ret
                  exact ⟨ret_bool (by rw [HV3.out, hv.out]; simp), B3.out⟩
                · have wk1 : (t.kids.length == 2) = false := by simp [wk]
                  have wk2 : ((t.kids.length : Int) == 2) = false := by rw [beq_eq_false_iff_ne]; omega
                  have hv := Lib.hid (show tree1 (tagI (tagOf t.s l 0)) t.op t.n t.s t.path.length t.kids.length = false from by
                    unfold tree1; simp only [beq_iff_eq, beq_eq_false_iff_ne, ne_eq] at o1 o2 o3 o4; simp [o1, o2, o3, o4, hib, es, pp, wk])
                  try clear hib
                  go_wp2_with fail
                  all_goals
                    go_ret
                    exact ⟨ret_bool (by rw [HV3.out, hv.out]; rfl), B1.out⟩
        · skip
          cases en : (t.n == 0)
          · skip
            have hv := Lib.hid (show tree1 (tagI (tagOf t.s l 0)) t.op t.n t.s t.path.length t.kids.length = false from by
              unfold tree1; simp only [beq_iff_eq, beq_eq_false_iff_ne, ne_eq] at o1 o2 o3 en; simp [o1, o2, o3, en])
            try clear hib
            go_wp2_with fail
            all_goals
              go_ret
              exact ⟨ret_bool (by rw [HV3.out, hv.out]; rfl), B1.out⟩
          · skip
            have HS := Lib.hid (S0.out.below B1.out B1.out.size)
            go_wp2_with fail
            refine (implConTag l A c t.s _ HM.out HS.out).mono ?_
            rintro e w2 ⟨rfl, hb2⟩
            have B2 := Lib.hid (B1.out.trans (hb2.mono B1.out.size))
            have RL2 := Lib.hid (RL1.out.below hb2 RL1.out.lt)
            have RT2 := Lib.hid (RT1.out.below hb2 RT1.out.lt)
            clear hR hL hb2
            have hR := fun i => RT2.out.cell i
            have hL := fun i => RL2.out.cell i
            generalize tagI (tagOf t.s l 0) = tg at *
            by_cases tt : 0 ≤ tg
            · have tt1 : decide (0 ≤ tg) = true := decide_eq_true tt
              by_cases wk : t.kids.length = 2
              · have wk1 : (t.kids.length == 2) = true := by simp [wk]
                have wk2 : ((t.kids.length : Int) == 2) = true := by rw [beq_iff_eq]; omega
                have hv := Lib.hid (show tree1 tg t.op t.n t.s t.path.length t.kids.length = true from by
                  unfold tree1; simp only [beq_iff_eq, beq_eq_false_iff_ne, ne_eq] at o1 o2 o3 en; simp [o1, o2, o3, en, tt, pp, wk])
                clear wk wk1
                try clear hib
                go_wp2_with fail
                refine (containsFuncTree 182 (enters Try.func182 (by kernel_rfl) (by kernel_rfl)) #[.pointer (some ⟨w.heap.size, 0, none⟩)] (fun x => !x.okS l) t.kids A2 c2 _ (T0.out.below B2.out B2.out.size).2.2.2.2
                  (fun x hx A3 c3 A4 c4 w3 hb3 hat3 => by
                    have R3 := RL2.out.below hb3 RL2.out.lt
                    exact implTreeKid k IH.out l A c w.heap.size x A3 c3 A4 c4 w3 (HBJ.out x hx) HM.out (R3.cell 0) R3.lt (S0.out.below (B2.out.trans (hb3.mono B2.out.size)) (Nat.le_trans B2.out.size hb3.size)) hat3)).mono ?_
                rintro e w3 ⟨rfl, hb3⟩
                rw [all_not_any]
                have B3 := Lib.hid (B2.out.trans (hb3.mono B2.out.size))
                clear hb3
                go_wp2_with fail
                go_ret
                exact ⟨ret_bool (by rw [HV3.out, hv.out]; simp), B3.out⟩
              · have wk1 : (t.kids.length == 2) = false := by simp [wk]
                have wk2 : ((t.kids.length : Int) == 2) = false := by rw [beq_eq_false_iff_ne]; omega
                have hv := Lib.hid (show tree1 tg t.op t.n t.s t.path.length t.kids.length = false from by
                  unfold tree1; simp only [beq_iff_eq, beq_eq_false_iff_ne, ne_eq] at o1 o2 o3 en; simp [o1, o2, o3, en, tt, pp, wk])
                try clear hib
                go_wp2_with fail
                all_goals
                  go_ret
                  exact ⟨ret_bool (by rw [HV3.out, hv.out]; rfl), B2.out⟩
            · have tt1 : decide (0 ≤ tg) = false := decide_eq_false tt
              have hv := Lib.hid (show tree1 tg t.op t.n t.s t.path.length t.kids.length = false from by
                unfold tree1; simp only [beq_iff_eq, beq_eq_false_iff_ne, ne_eq] at o1 o2 o3 en; simp [o1, o2, o3, en, tt])
              try clear hib
              go_wp2_with fail
              all_goals
                go_ret
                exact ⟨ret_bool (by rw [HV3.out, hv.out]; rfl), B2.out⟩
      · skip
        cases en : (t.n == 0)
        · skip
          have hv := Lib.hid (show tree1 (tagI (tagOf t.s l 0)) t.op t.n t.s t.path.length t.kids.length = false from by
            unfold tree1; simp only [beq_iff_eq, beq_eq_false_iff_ne, ne_eq] at o1 o2 en; simp [o1, o2, en])
          try clear hib
          go_wp2_with fail
          all_goals
            go_ret
            exact ⟨ret_bool (by rw [HV3.out, hv.out]; rfl), B1.out⟩
        · skip
          by_cases zp : t.path.length = 0
          · have zp1 : (t.path.length == 0) = true := by simp [zp]
            have zp2 : ((t.path.length : Int) == 0) = true := by rw [beq_iff_eq]; omega
            cases es : (t.s.toList.isEmpty)
            · skip
              have hv := Lib.hid (show tree1 (tagI (tagOf t.s l 0)) t.op t.n t.s t.path.length t.kids.length = false from by
                unfold tree1; simp only [beq_iff_eq, beq_eq_false_iff_ne, ne_eq] at o1 o2 en; simp [o1, o2, en, zp, es])
              try clear hib
              go_wp2_with fail
              all_goals
                go_ret
                exact ⟨ret_bool (by rw [HV3.out, hv.out]; rfl), B1.out⟩
            · skip
              by_cases zk : t.kids.length = 0
              · have zk1 : (t.kids.length == 0) = true := by simp [zk]
                have zk2 : ((t.kids.length : Int) == 0) = true := by rw [beq_iff_eq]; omega
                have hv := Lib.hid (show tree1 (tagI (tagOf t.s l 0)) t.op t.n t.s t.path.length t.kids.length = true from by
                  unfold tree1; simp only [beq_iff_eq, beq_eq_false_iff_ne, ne_eq] at o1 o2 en; simp [o1, o2, en, zp, es, zk])
                clear zk zk1
                try clear hib
                go_wp2_with fail
                refine (containsFuncTree 182 (enters Try.func182 (by kernel_rfl) (by kernel_rfl)) #[.pointer (some ⟨w.heap.size, 0, none⟩)] (fun x => !x.okS l) t.kids A2 c2 _ (T0.out.below B1.out B1.out.size).2.2.2.2
                  (fun x hx A3 c3 A4 c4 w3 hb3 hat3 => by
                    have R3 := RL1.out.below hb3 RL1.out.lt
                    exact implTreeKid k IH.out l A c w.heap.size x A3 c3 A4 c4 w3 (HBJ.out x hx) HM.out (R3.cell 0) R3.lt (S0.out.below (B1.out.trans (hb3.mono B1.out.size)) (Nat.le_trans B1.out.size hb3.size)) hat3)).mono ?_
                rintro e w3 ⟨rfl, hb3⟩
                rw [all_not_any]
                have B3 := Lib.hid (B1.out.trans (hb3.mono B1.out.size))
                clear hb3
                go_wp2_with fail
                go_ret
                exact ⟨ret_bool (by rw [HV3.out, hv.out]; simp), B3.out⟩
              · have zk1 : (t.kids.length == 0) = false := by simp [zk]
                have zk2 : ((t.kids.length : Int) == 0) = false := by rw [beq_eq_false_iff_ne]; omega
                have hv := Lib.hid (show tree1 (tagI (tagOf t.s l 0)) t.op t.n t.s t.path.length t.kids.length = false from by
                  unfold tree1; simp only [beq_iff_eq, beq_eq_false_iff_ne, ne_eq] at o1 o2 en; simp [o1, o2, en, zp, es, zk])
                try clear hib
                go_wp2_with fail
                all_goals
                  go_ret
                  exact ⟨ret_bool (by rw [HV3.out, hv.out]; rfl), B1.out⟩
          · have zp1 : (t.path.length == 0) = false := by simp [zp]
            have zp2 : ((t.path.length : Int) == 0) = false := by rw [beq_eq_false_iff_ne]; omega
            have hv := Lib.hid (show tree1 (tagI (tagOf t.s l 0)) t.op t.n t.s t.path.length t.kids.length = false from by
              unfold tree1; simp only [beq_iff_eq, beq_eq_false_iff_ne, ne_eq] at o1 o2 en; simp [o1, o2, en, zp])
            try clear hib
            go_wp2_with fail
            all_goals
              go_ret
              exact ⟨ret_bool (by rw [HV3.out, hv.out]; rfl), B1.out⟩
    · skip
      by_cases nn : 0 ≤ t.n
      · have nn1 : decide (0 ≤ t.n) = true := decide_eq_true nn
        by_cases zp : t.path.length = 0
        · have zp1 : (t.path.length == 0) = true := by simp [zp]
          have zp2 : ((t.path.length : Int) == 0) = true := by rw [beq_iff_eq]; omega
          cases es : (t.s.toList.isEmpty)
          · skip
            have hv := Lib.hid (show tree1 (tagI (tagOf t.s l 0)) t.op t.n t.s t.path.length t.kids.length = false from by
              unfold tree1; simp only [beq_iff_eq, beq_eq_false_iff_ne, ne_eq] at o1; simp [o1, nn, zp, es])
            try clear hib
            go_wp2_with fail
            all_goals
              go_ret
              exact ⟨ret_bool (by rw [HV3.out, hv.out]; rfl), B1.out⟩
          · skip
            by_cases zk : t.kids.length = 0
            · have zk1 : (t.kids.length == 0) = true := by simp [zk]
              have zk2 : ((t.kids.length : Int) == 0) = true := by rw [beq_iff_eq]; omega
              have hv := Lib.hid (show tree1 (tagI (tagOf t.s l 0)) t.op t.n t.s t.path.length t.kids.length = true from by
                unfold tree1; simp only [beq_iff_eq, beq_eq_false_iff_ne, ne_eq] at o1; simp [o1, nn, zp, es, zk])
              clear zk zk1
              try clear hib
              go_wp2_with fail
              refine (containsFuncTree 182 (enters Try.func182 (by kernel_rfl) (by kernel_rfl)) #[.pointer (some ⟨w.heap.size, 0, none⟩)] (fun x => !x.okS l) t.kids A2 c2 _ (T0.out.below B1.out B1.out.size).2.2.2.2
                (fun x hx A3 c3 A4 c4 w3 hb3 hat3 => by
                  have R3 := RL1.out.below hb3 RL1.out.lt
                  exact implTreeKid k IH.out l A c w.heap.size x A3 c3 A4 c4 w3 (HBJ.out x hx) HM.out (R3.cell 0) R3.lt (S0.out.below (B1.out.trans (hb3.mono B1.out.size)) (Nat.le_trans B1.out.size hb3.size)) hat3)).mono ?_
              rintro e w3 ⟨rfl, hb3⟩
              rw [all_not_any]
              have B3 := Lib.hid (B1.out.trans (hb3.mono B1.out.size))
              clear hb3
              go_wp2_with fail
              go_ret
              exact ⟨ret_bool (by rw [HV3.out, hv.out]; simp), B3.out⟩
            · have zk1 : (t.kids.length == 0) = false := by simp [zk]
              have zk2 : ((t.kids.length : Int) == 0) = false := by rw [beq_eq_false_iff_ne]; omega
              have hv := Lib.hid (show tree1 (tagI (tagOf t.s l 0)) t.op t.n t.s t.path.length t.kids.length = false from by
                unfold tree1; simp only [beq_iff_eq, beq_eq_false_iff_ne, ne_eq] at o1; simp [o1, nn, zp, es, zk])
              try clear hib
              go_wp2_with fail
              all_goals
                go_ret
                exact ⟨ret_bool (by rw [HV3.out, hv.out]; rfl), B1.out⟩
        · have zp1 : (t.path.length == 0) = false := by simp [zp]
          have zp2 : ((t.path.length : Int) == 0) = false := by rw [beq_eq_false_iff_ne]; omega
          have hv := Lib.hid (show tree1 (tagI (tagOf t.s l 0)) t.op t.n t.s t.path.length t.kids.length = false from by
            unfold tree1; simp only [beq_iff_eq, beq_eq_false_iff_ne, ne_eq] at o1; simp [o1, nn, zp])
          try clear hib
          go_wp2_with fail
          all_goals
            go_ret
            exact ⟨ret_bool (by rw [HV3.out, hv.out]; rfl), B1.out⟩
      · have nn1 : decide (0 ≤ t.n) = false := decide_eq_false nn
        have hv := Lib.hid (show tree1 (tagI (tagOf t.s l 0)) t.op t.n t.s t.path.length t.kids.length = false from by
          unfold tree1; simp only [beq_iff_eq, beq_eq_false_iff_ne, ne_eq] at o1; simp [o1, nn])
        try clear hib
        go_wp2_with fail
        all_goals
          go_ret
          exact ⟨ret_bool (by rw [HV3.out, hv.out]; rfl), B1.out⟩

set_option maxRecDepth 20000 in
theorem specTreeOk (l : List GData) (A : Option Addr) (c : Nat) (t : GTree) (A1 : Option Addr) (c1 : Nat) (A2 : Option Addr) (c2 : Nat) (w : World) (hn : t.nodes ≤ 4611686018427387904) (hm : consN l ≤ 1048576) (hs : Sl w (Lt w.heap.size) 3 A c (l.map GData.toD)) (ht : GTree.At w (Lt w.heap.size) A1 c1 A2 c2 t) :
    Calls Try.prog 37 #[.slice A l.length c, .agg #[.int .i64 t.op, .int .i64 t.n, .slice A1 t.path.length c1, .string t.s, .slice A2 t.kids.length c2]] w fun e w' => e = .returned (.bool (t.ok l)) ∧ Below w.heap.size w w' := by
  have E0 : Below w.heap.size w (w.alloc (.cells #[.int .i64 t.op, .int .i64 t.n, .slice A1 t.path.length c1, .string t.s, .slice A2 t.kids.length c2] 70)) := (Below.refl _ _).alloc (Nat.le_refl _) _
  have r0 := Lib.hid (Row.new w 70 #[.int .i64 t.op, .int .i64 t.n, .slice A1 t.path.length c1, .string t.s, .slice A2 t.kids.length c2])
  have T0 := Lib.hid ht
  have S0 := Lib.hid hs
  have HM := Lib.hid hm
  clear ht hs hm
  go_enter Try.func37, Try.ntmps37
  go_wp2_with fail
  refine (specTreeSize t.nodes t A1 c1 A2 c2 _ (Nat.le_refl _) hn (T0.out.below E0 E0.size)).mono ?_
  rintro e w1 ⟨rfl, hb1⟩
  have B1 := E0.trans (hb1.mono E0.size)
  have r1 := Lib.hid (r0.out.below hb1 r0.out.lt)
  have hc1 := fun i => r1.out.cell i
  by_cases h : t.nodes ≤ 300
  · have hI : (t.nodes : Int) ≤ 300 := by omega
    have HS := Lib.hid (S0.out.keep (keep_below B1 B1.size))
    go_wp2_with fail
    refine (specTree (t.bulk + 1) l A c t A1 c1 A2 c2 _ (by omega) HM.out HS.out (T0.out.below B1 B1.size)).mono ?_
    rintro e w2 ⟨rfl, hb2⟩
    go_wp2_with fail
    go_ret
    exact ⟨ret_bool (by unfold GTree.ok; simp [h]), B1.trans (hb2.mono B1.size)⟩
  · have hI : ¬ (t.nodes : Int) ≤ 300 := by omega
    have hI2 : decide ((t.nodes : Int) ≤ 300) = false := by simpa using hI
    go_wp2_with fail
    go_ret
    exact ⟨ret_bool (by unfold GTree.ok; simp [h]), B1⟩


set_option maxRecDepth 20000 in
theorem implTreeOk (l : List GData) (A : Option Addr) (c : Nat) (t : GTree) (A1 : Option Addr) (c1 : Nat) (A2 : Option Addr) (c2 : Nat) (w : World) (hn : t.nodes ≤ 4611686018427387904) (hm : consN l ≤ 1048576) (hs : Sl w (Lt w.heap.size) 3 A c (l.map GData.toD)) (ht : GTree.At w (Lt w.heap.size) A1 c1 A2 c2 t) :
    Calls Try.prog 40 #[.slice A l.length c, .agg #[.int .i64 t.op, .int .i64 t.n, .slice A1 t.path.length c1, .string t.s, .slice A2 t.kids.length c2]] w fun e w' => e = .returned (.bool (t.ok l)) ∧ Below w.heap.size w w' := by
  have E0 : Below w.heap.size w (w.alloc (.cells #[.int .i64 t.op, .int .i64 t.n, .slice A1 t.path.length c1, .string t.s, .slice A2 t.kids.length c2] 70)) := (Below.refl _ _).alloc (Nat.le_refl _) _
  have r0 := Lib.hid (Row.new w 70 #[.int .i64 t.op, .int .i64 t.n, .slice A1 t.path.length c1, .string t.s, .slice A2 t.kids.length c2])
  have T0 := Lib.hid ht
  have S0 := Lib.hid hs
  have HM := Lib.hid hm
  clear ht hs hm
  go_enter Try.func40, Try.ntmps40
  go_wp2_with fail
  refine (implTreeSize t.nodes t A1 c1 A2 c2 _ (Nat.le_refl _) hn (T0.out.below E0 E0.size)).mono ?_
  rintro e w1 ⟨rfl, hb1⟩
  have B1 := E0.trans (hb1.mono E0.size)
  have r1 := Lib.hid (r0.out.below hb1 r0.out.lt)
  have hc1 := fun i => r1.out.cell i
  by_cases h : t.nodes ≤ 300
  · have hI : (t.nodes : Int) ≤ 300 := by omega
    have HS := Lib.hid (S0.out.keep (keep_below B1 B1.size))
    go_wp2_with fail
    refine (implTree (t.bulk + 1) l A c t A1 c1 A2 c2 _ (by omega) HM.out HS.out (T0.out.below B1 B1.size)).mono ?_
    rintro e w2 ⟨rfl, hb2⟩
    go_wp2_with fail
    go_ret
    exact ⟨ret_bool (by unfold GTree.ok; simp [h]), B1.trans (hb2.mono B1.size)⟩
  · have hI : ¬ (t.nodes : Int) ≤ 300 := by omega
    have hI2 : decide ((t.nodes : Int) ≤ 300) = false := by simpa using hI
    go_wp2_with fail
    go_ret
    exact ⟨ret_bool (by unfold GTree.ok; simp [h]), B1⟩

end Go.Proofs.Ytjcgfbjdailgoaa
