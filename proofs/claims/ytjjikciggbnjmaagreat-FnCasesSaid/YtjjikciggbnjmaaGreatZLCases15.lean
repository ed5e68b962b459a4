/- Texts of the claim LCases in one: TreeOk CasesP CasesQ WCases Joined. Conditions: none but bounds on sizes. -/
import Derived.Test.YtjjikciggbnjmaaGreatZLCases14
import Derived.Test.YtjjikciggbnjmaaGreatZLCases10
import Derived.Test.YtjjikciggbnjmaaGreatZLCases2
import Derived.Test.YtjjikciggbnjmaaGreatZLCases9
import Derived.Deep.CutRange
import Derived.WalkKit
import Derived.ProofKit
import Derived.OpenShut
namespace Go.Proofs.YtjjikciggbnjmaaGreat
set_option maxRecDepth 20000
set_option linter.unusedVariables false
set_option linter.unusedSimpArgs false
open Go.RowKit
set_option maxHeartbeats 2000000
theorem specWordOkT (n : Int) (w : World) : Calls Tryz.prog 110 #[.int .i64 n] w fun e w' => e = .returned (.bool (inB n (-1073741824) 1073741823)) ∧ w = w' := by
 go_enter Tryz.func110, Tryz.ntmps110
 go_wp2_with fail
 refine (specIn n (-1073741824) 1073741823 w).mono ?_
 rintro e w1 ⟨rfl, rfl⟩
 go_wp2_with fail
 go_ret
 exact ⟨rfl, rfl⟩
theorem implWordOkT (n : Int) (w : World) : Calls Tryz.prog 47 #[.int .i64 n] w fun e w' => e = .returned (.bool (inB n (-1073741824) 1073741823)) ∧ w = w' := by
 go_enter Tryz.func47, Tryz.ntmps47
 go_wp2_with fail
 refine (implWithin n (-1073741824) 1073741823 w).mono ?_
 rintro e w1 ⟨rfl, rfl⟩
 go_wp2_with fail
 go_ret
 exact ⟨rfl, rfl⟩
def tree1 (tg : Int) (op n : Int) (s : ByteArray) (np nk : Nat) : Bool :=
 if op = 1 then decide (0 ≤ n) && (np == 0 && (s.toList.isEmpty && nk == 0))
 else if op = 2 then n == 0 && (np == 0 && (s.toList.isEmpty && nk == 0))
 else if op = 3 then n == 0 && (decide (0 ≤ tg) && (nk == 2 && decide (np ≤ 24)))
 else if op = 4 then inB n (-1073741824) 1073741823 && (s.toList.isEmpty && (nk == 2 && decide (np ≤ 24))) else false
mutual
def GTree.okS (l : List GData) : GTree → Bool | .mk op n path s kids => (path.all fun x => decide (0 ≤ x)) && (tree1 (tagI (tagOf s l 0)) op n s path.length kids.length && GTree.okSL l kids)
def GTree.okSL (l : List GData) : List GTree → Bool | [] => true | t :: r => t.okS l && GTree.okSL l r
end
theorem GTree.okSL_all (l : List GData) : ∀ r : List GTree, GTree.okSL l r = r.all (GTree.okS l)
 | [] => rfl
 | t :: r => by simp only [GTree.okSL, List.all_cons, GTree.okSL_all l r]
theorem GTree.okS_eq (l : List GData) (t : GTree) : t.okS l = ((t.path.all fun x => decide (0 ≤ x)) && (tree1 (tagI (tagOf t.s l 0)) t.op t.n t.s t.path.length t.kids.length && t.kids.all (GTree.okS l))) := by
 cases t; simp only [GTree.okS, GTree.okSL_all, GTree.op, GTree.n, GTree.path, GTree.s, GTree.kids]
def GTree.ok (l : List GData) (t : GTree) : Bool := decide (t.nodes ≤ 300) && t.okS l
theorem all_not_anyT {α : Type} (p : α → Bool) (l : List α) : l.any (fun x => !p x) = !l.all p := by
 induction l with
 | nil => rfl
 | cons x r ih => simp only [List.any_cons, List.all_cons, ih, Bool.not_and]
theorem tree1_long {tg op n : Int} {s : ByteArray} {np nk : Nat} (h : 24 < np) : tree1 tg op n s np nk = false := by
 have h0 : ¬ np = 0 := by omega
 have h1 : ¬ np ≤ 24 := by omega
 unfold tree1
 split
 · simp [h0]
 · split
   · simp [h0]
   · split
     · simp [h1]
     · split <;> simp [h1]
theorem all_neg (l : List Int) : (l.any fun x => decide (x < 0)) = !(l.all fun x => decide (0 ≤ x)) := by
 rw [← all_not_anyT]
 congr 1
 funext x
 by_cases h : x < 0
 · rw [decide_eq_true h, decide_eq_false (by omega)]; rfl
 · rw [decide_eq_false h, decide_eq_true (by omega)]; rfl
theorem implTreeNeg (x : Int) (w : World) : Calls Tryz.prog 45 #[.int .i64 x] w fun e w' => e = .returned (.bool (decide (x < 0))) ∧ Below w.heap.size w w' := by
 go_enter Tryz.func45, Tryz.ntmps45
 go_wp2_with fail
 go_ret
 exact ⟨rfl, Below.refl _ _⟩
def TreeTo (k : Nat) : Prop := ∀ (l : List GData) (A : Option Addr) (c : Nat) (t : GTree) (A1 : Option Addr) (c1 : Nat) (A2 : Option Addr) (c2 : Nat) (w : World), t.bulk < k → consN l ≤ 1048576 → Sl w (Lt w.heap.size) 3 A c (l.map GData.toD) → GTree.At w (Lt w.heap.size) A1 c1 A2 c2 t →
 Calls Tryz.prog 26 #[.slice A l.length c, .agg #[.int .i64 t.op, .int .i64 t.n, .slice A1 t.path.length c1, .string t.s, .slice A2 t.kids.length c2]] w fun e w' => e = .returned (.bool (t.okS l)) ∧ Below w.heap.size w w'
theorem implTreeKid (k : Nat) (HH : TreeTo k) (l : List GData) (A : Option Addr) (c : Nat) (b : Nat) (x : GTree) (A1 : Option Addr) (c1 : Nat) (A2 : Option Addr) (c2 : Nat) (w : World) (hk : x.bulk < k) (hm : consN l ≤ 1048576) (hc : w.cell? ⟨b, 0, none⟩ = some (.slice A l.length c)) (hb : b < w.heap.size)
 (hs : Sl w (Lt w.heap.size) 3 A c (l.map GData.toD)) (hat : GTree.At w (Lt w.heap.size) A1 c1 A2 c2 x) :
 Calls Tryz.prog 49 #[.agg #[.int .i64 x.op, .int .i64 x.n, .slice A1 x.path.length c1, .string x.s, .slice A2 x.kids.length c2], .pointer (some ⟨b, 0, none⟩)] w fun e w' => e = .returned (.bool (!x.okS l)) ∧ Below w.heap.size w w' := by
 have E0 := LH (show Below w.heap.size w (w.alloc (.cells #[.int .i64 x.op, .int .i64 x.n, .slice A1 x.path.length c1, .string x.s, .slice A2 x.kids.length c2] 34)) from (Below.refl _ _).alloc (Nat.le_refl _) _)
 have hc2 := (E0.out.cell (p := ⟨b, 0, none⟩) hb).trans hc
 have HC := LH (HH l A c x A1 c1 A2 c2 (w.alloc (.cells #[.int .i64 x.op, .int .i64 x.n, .slice A1 x.path.length c1, .string x.s, .slice A2 x.kids.length c2] 34)) hk hm (hs.keep (keep_below E0.out E0.out.size)) (hat.below E0.out E0.out.size))
 clear HH hs hat
 go_enter Tryz.func49, Tryz.ntmps49
 go_wp2_with fail
 refine HC.out.mono ?_
 rintro e w1 ⟨rfl, hb1⟩
 have B1 := E0.out.trans (hb1.mono E0.out.size)
 go_wp2_with fail
 go_ret
 exact ⟨rfl, B1⟩
theorem implTree (k : Nat) : TreeTo k := by
 induction k with
 | zero => intro l A c t A1 c1 A2 c2 w hk; omega
 | succ k ih =>
  intro l A c t A1 c1 A2 c2 w hk hm hs hat
  have hkl : t.kids.length ≤ 9223372036854775807 := by simpa using hat.2.2.2.2.len
  have hpl : t.path.length ≤ 9223372036854775807 := by simpa using hat.2.2.1.len
  have IH := LH ih
  have HBJ := LH (show ∀ x ∈ t.kids, x.bulk < k from fun x hx => by have := bulkL_mem GTree.bulk t.kids x hx; have := t.bulk_eq; omega)
  have HM := LH hm
  have S0 := LH hs
  have T0 := LH hat
  have HV := LH (t.okS_eq l)
  have E1 := LH (show Below w.heap.size w ((w.alloc (.cells #[.slice A l.length c] 24)).alloc (.cells #[.int .i64 t.op, .int .i64 t.n, .slice A1 t.path.length c1, .string t.s, .slice A2 t.kids.length c2] 34)) from ((Below.refl _ _).alloc (Nat.le_refl _) _).alloc (by simp) _)
  have RL0 := LH ((Row.new w 24 #[.slice A l.length c]).alloc (.cells #[.int .i64 t.op, .int .i64 t.n, .slice A1 t.path.length c1, .string t.s, .slice A2 t.kids.length c2] 34))
  have RT0 := LH (Row.new' (w.alloc (.cells #[.slice A l.length c] 24)) 34 #[.int .i64 t.op, .int .i64 t.n, .slice A1 t.path.length c1, .string t.s, .slice A2 t.kids.length c2] (g := w.heap.size + 1) (by simp))
  clear ih hk hs hat hm
  by_cases pp : t.path.length ≤ 24
  rotate_left
  · have hv := LH (show t.okS l = false by rw [HV.out, tree1_long (by omega)]; simp)
    go_enter Tryz.func26, Tryz.ntmps26
    go_wp2_with fail
    go_ret
    exact ⟨ret_bool hv.out.symm, E1.out⟩
  have ppi : (t.path.length : Int) ≤ 24 := by omega
  go_enter Tryz.func26, Tryz.ntmps26
  go_wp2_with fail
  refine (containsFuncint 45 (enters Tryz.func45 (by kernel_rfl) (by kernel_rfl)) #[] (fun x => decide (x < 0)) t.path A1 c1 _ (T0.out.below E1.out E1.out.size).2.2.1
    (fun x hx w2 hb2 _ => implTreeNeg x w2)).mono ?_
  rintro e w1 ⟨rfl, hb1⟩
  have B1 := LH (E1.out.trans (hb1.mono E1.out.size))
  have RL1 := LH (RL0.out.below hb1 RL0.out.lt)
  have RT1 := LH (RT0.out.below hb1 RT0.out.lt)
  have hR := fun i => RT1.out.cell i
  have hL := fun i => RL1.out.cell i
  clear hb1
  rw [all_neg]
  cases hpa : (t.path.all fun x => decide (0 ≤ x))
  · have hv := LH (show t.okS l = false by rw [HV.out, hpa]; rfl)
    clear hpa
    go_wp2_with fail
    go_ret
    exact ⟨ret_bool hv.out.symm, B1.out⟩
  have HV3 := LH (show t.okS l = (tree1 (tagI (tagOf t.s l 0)) t.op t.n t.s t.path.length t.kids.length && t.kids.all (GTree.okS l)) by rw [HV.out, hpa, Bool.true_and])
  clear hpa HV
  cases o1 : (t.op == 1)
  ·
   skip
   cases o2 : (t.op == 2)
   ·
    skip
    cases o3 : (t.op == 3)
    ·
     skip
     cases o4 : (t.op == 4)
     · skip
       have hv := LH (show tree1 (tagI (tagOf t.s l 0)) t.op t.n t.s t.path.length t.kids.length = false from by
         unfold tree1; simp only [beq_iff_eq, beq_eq_false_iff_ne, ne_eq] at o1 o2 o3 o4; simp [o1, o2, o3, o4])
       try clear hib
       go_wp2_with fail
       all_goals
        go_ret
        exact ⟨ret_bool (by rw [HV3.out, hv.out]; rfl), B1.out⟩
     ·
      skip
      go_wp2_with fail
      refine (implWordOkT t.n _).mono ?_
      rintro e w2 ⟨rfl, rfl⟩
      generalize hib : inB t.n (-1073741824) 1073741823 = ib at *
      cases ib
      · skip
        have hv := LH (show tree1 (tagI (tagOf t.s l 0)) t.op t.n t.s t.path.length t.kids.length = false from by
          unfold tree1; simp only [beq_iff_eq, beq_eq_false_iff_ne, ne_eq] at o1 o2 o3 o4; simp [o1, o2, o3, o4, hib])
        try clear hib
        go_wp2_with fail
        all_goals
         go_ret
         exact ⟨ret_bool (by rw [HV3.out, hv.out]; rfl), B1.out⟩
      ·
       skip
       cases es : (t.s.toList.isEmpty)
       · skip
         have hv := LH (show tree1 (tagI (tagOf t.s l 0)) t.op t.n t.s t.path.length t.kids.length = false from by
           unfold tree1; simp only [beq_iff_eq, beq_eq_false_iff_ne, ne_eq] at o1 o2 o3 o4; simp [o1, o2, o3, o4, hib, es])
         try clear hib
         go_wp2_with fail
         all_goals
          go_ret
          exact ⟨ret_bool (by rw [HV3.out, hv.out]; rfl), B1.out⟩
       ·
        skip
        by_cases wk : t.kids.length = 2
        ·
         have wk1 : (t.kids.length == 2) = true := by simp [wk]
         have wk2 : ((t.kids.length : Int) == 2) = true := by rw [beq_iff_eq]; omega
         have hv := LH (show tree1 (tagI (tagOf t.s l 0)) t.op t.n t.s t.path.length t.kids.length = true from by
           unfold tree1; simp only [beq_iff_eq, beq_eq_false_iff_ne, ne_eq] at o1 o2 o3 o4; simp [o1, o2, o3, o4, hib, es, pp, wk])
         clear wk wk1
         try clear hib
         go_wp2_with fail
         refine (containsFuncTree 49 (enters Tryz.func49 (by kernel_rfl) (by kernel_rfl)) #[.pointer (some ⟨w.heap.size, 0, none⟩)] (fun x => !x.okS l) t.kids A2 c2 _ (T0.out.below B1.out B1.out.size).2.2.2.2
           (fun x hx A3 c3 A4 c4 w3 hb3 hat3 => by
             have R3 := RL1.out.below hb3 RL1.out.lt
             exact implTreeKid k IH.out l A c w.heap.size x A3 c3 A4 c4 w3 (HBJ.out x hx) HM.out (R3.cell 0) R3.lt (S0.out.below (B1.out.trans (hb3.mono B1.out.size)) (Nat.le_trans B1.out.size hb3.size)) hat3)).mono ?_
         rintro e w3 ⟨rfl, hb3⟩
         rw [all_not_anyT]
         have B3 := LH (B1.out.trans (hb3.mono B1.out.size))
         clear hb3
         go_wp2_with fail
         go_ret
         exact ⟨ret_bool (by rw [HV3.out, hv.out]; simp), B3.out⟩
        · have wk1 : (t.kids.length == 2) = false := by simp [wk]
          have wk2 : ((t.kids.length : Int) == 2) = false := by rw [beq_eq_false_iff_ne]; omega
          have hv := LH (show tree1 (tagI (tagOf t.s l 0)) t.op t.n t.s t.path.length t.kids.length = false from by
            unfold tree1; simp only [beq_iff_eq, beq_eq_false_iff_ne, ne_eq] at o1 o2 o3 o4; simp [o1, o2, o3, o4, hib, es, pp, wk])
          try clear hib
          go_wp2_with fail
          all_goals
           go_ret
           exact ⟨ret_bool (by rw [HV3.out, hv.out]; rfl), B1.out⟩
    ·
     skip
     cases en : (t.n == 0)
     · skip
       have hv := LH (show tree1 (tagI (tagOf t.s l 0)) t.op t.n t.s t.path.length t.kids.length = false from by
         unfold tree1; simp only [beq_iff_eq, beq_eq_false_iff_ne, ne_eq] at o1 o2 o3 en; simp [o1, o2, o3, en])
       try clear hib
       go_wp2_with fail
       all_goals
        go_ret
        exact ⟨ret_bool (by rw [HV3.out, hv.out]; rfl), B1.out⟩
     ·
      skip
      have HS := LH (S0.out.below B1.out B1.out.size)
      go_wp2_with fail
      refine (implConTag l A c t.s _ HM.out HS.out).mono ?_
      rintro e w2 ⟨rfl, hb2⟩
      have B2 := LH (B1.out.trans (hb2.mono B1.out.size))
      have RL2 := LH (RL1.out.below hb2 RL1.out.lt)
      have RT2 := LH (RT1.out.below hb2 RT1.out.lt)
      clear hR hL hb2
      have hR := fun i => RT2.out.cell i
      have hL := fun i => RL2.out.cell i
      generalize tagI (tagOf t.s l 0) = tg at *
      by_cases tt : 0 ≤ tg
      ·
       have tt1 : decide (0 ≤ tg) = true := decide_eq_true tt
       by_cases wk : t.kids.length = 2
       ·
        have wk1 : (t.kids.length == 2) = true := by simp [wk]
        have wk2 : ((t.kids.length : Int) == 2) = true := by rw [beq_iff_eq]; omega
        have hv := LH (show tree1 tg t.op t.n t.s t.path.length t.kids.length = true from by
          unfold tree1; simp only [beq_iff_eq, beq_eq_false_iff_ne, ne_eq] at o1 o2 o3 en; simp [o1, o2, o3, en, tt, pp, wk])
        clear wk wk1
        try clear hib
        go_wp2_with fail
        refine (containsFuncTree 49 (enters Tryz.func49 (by kernel_rfl) (by kernel_rfl)) #[.pointer (some ⟨w.heap.size, 0, none⟩)] (fun x => !x.okS l) t.kids A2 c2 _ (T0.out.below B2.out B2.out.size).2.2.2.2
          (fun x hx A3 c3 A4 c4 w3 hb3 hat3 => by
            have R3 := RL2.out.below hb3 RL2.out.lt
            exact implTreeKid k IH.out l A c w.heap.size x A3 c3 A4 c4 w3 (HBJ.out x hx) HM.out (R3.cell 0) R3.lt (S0.out.below (B2.out.trans (hb3.mono B2.out.size)) (Nat.le_trans B2.out.size hb3.size)) hat3)).mono ?_
        rintro e w3 ⟨rfl, hb3⟩
        rw [all_not_anyT]
        have B3 := LH (B2.out.trans (hb3.mono B2.out.size))
        clear hb3
        go_wp2_with fail
        go_ret
        exact ⟨ret_bool (by rw [HV3.out, hv.out]; simp), B3.out⟩
       · have wk1 : (t.kids.length == 2) = false := by simp [wk]
         have wk2 : ((t.kids.length : Int) == 2) = false := by rw [beq_eq_false_iff_ne]; omega
         have hv := LH (show tree1 tg t.op t.n t.s t.path.length t.kids.length = false from by
           unfold tree1; simp only [beq_iff_eq, beq_eq_false_iff_ne, ne_eq] at o1 o2 o3 en; simp [o1, o2, o3, en, tt, pp, wk])
         try clear hib
         go_wp2_with fail
         all_goals
          go_ret
          exact ⟨ret_bool (by rw [HV3.out, hv.out]; rfl), B2.out⟩
      · have tt1 : decide (0 ≤ tg) = false := decide_eq_false tt
        have hv := LH (show tree1 tg t.op t.n t.s t.path.length t.kids.length = false from by
          unfold tree1; simp only [beq_iff_eq, beq_eq_false_iff_ne, ne_eq] at o1 o2 o3 en; simp [o1, o2, o3, en, tt])
        try clear hib
        go_wp2_with fail
        all_goals
         go_ret
         exact ⟨ret_bool (by rw [HV3.out, hv.out]; rfl), B2.out⟩
   ·
    skip
    cases en : (t.n == 0)
    · skip
      have hv := LH (show tree1 (tagI (tagOf t.s l 0)) t.op t.n t.s t.path.length t.kids.length = false from by
        unfold tree1; simp only [beq_iff_eq, beq_eq_false_iff_ne, ne_eq] at o1 o2 en; simp [o1, o2, en])
      try clear hib
      go_wp2_with fail
      all_goals
       go_ret
       exact ⟨ret_bool (by rw [HV3.out, hv.out]; rfl), B1.out⟩
    ·
     skip
     by_cases zp : t.path.length = 0
     ·
      have zp1 : (t.path.length == 0) = true := by simp [zp]
      have zp2 : ((t.path.length : Int) == 0) = true := by rw [beq_iff_eq]; omega
      cases es : (t.s.toList.isEmpty)
      · skip
        have hv := LH (show tree1 (tagI (tagOf t.s l 0)) t.op t.n t.s t.path.length t.kids.length = false from by
          unfold tree1; simp only [beq_iff_eq, beq_eq_false_iff_ne, ne_eq] at o1 o2 en; simp [o1, o2, en, zp, es])
        try clear hib
        go_wp2_with fail
        all_goals
         go_ret
         exact ⟨ret_bool (by rw [HV3.out, hv.out]; rfl), B1.out⟩
      ·
       skip
       by_cases zk : t.kids.length = 0
       ·
        have zk1 : (t.kids.length == 0) = true := by simp [zk]
        have zk2 : ((t.kids.length : Int) == 0) = true := by rw [beq_iff_eq]; omega
        have hv := LH (show tree1 (tagI (tagOf t.s l 0)) t.op t.n t.s t.path.length t.kids.length = true from by
          unfold tree1; simp only [beq_iff_eq, beq_eq_false_iff_ne, ne_eq] at o1 o2 en; simp [o1, o2, en, zp, es, zk])
        clear zk zk1
        try clear hib
        go_wp2_with fail
        refine (containsFuncTree 49 (enters Tryz.func49 (by kernel_rfl) (by kernel_rfl)) #[.pointer (some ⟨w.heap.size, 0, none⟩)] (fun x => !x.okS l) t.kids A2 c2 _ (T0.out.below B1.out B1.out.size).2.2.2.2
          (fun x hx A3 c3 A4 c4 w3 hb3 hat3 => by
            have R3 := RL1.out.below hb3 RL1.out.lt
            exact implTreeKid k IH.out l A c w.heap.size x A3 c3 A4 c4 w3 (HBJ.out x hx) HM.out (R3.cell 0) R3.lt (S0.out.below (B1.out.trans (hb3.mono B1.out.size)) (Nat.le_trans B1.out.size hb3.size)) hat3)).mono ?_
        rintro e w3 ⟨rfl, hb3⟩
        rw [all_not_anyT]
        have B3 := LH (B1.out.trans (hb3.mono B1.out.size))
        clear hb3
        go_wp2_with fail
        go_ret
        exact ⟨ret_bool (by rw [HV3.out, hv.out]; simp), B3.out⟩
       · have zk1 : (t.kids.length == 0) = false := by simp [zk]
         have zk2 : ((t.kids.length : Int) == 0) = false := by rw [beq_eq_false_iff_ne]; omega
         have hv := LH (show tree1 (tagI (tagOf t.s l 0)) t.op t.n t.s t.path.length t.kids.length = false from by
           unfold tree1; simp only [beq_iff_eq, beq_eq_false_iff_ne, ne_eq] at o1 o2 en; simp [o1, o2, en, zp, es, zk])
         try clear hib
         go_wp2_with fail
         all_goals
          go_ret
          exact ⟨ret_bool (by rw [HV3.out, hv.out]; rfl), B1.out⟩
     · have zp1 : (t.path.length == 0) = false := by simp [zp]
       have zp2 : ((t.path.length : Int) == 0) = false := by rw [beq_eq_false_iff_ne]; omega
       have hv := LH (show tree1 (tagI (tagOf t.s l 0)) t.op t.n t.s t.path.length t.kids.length = false from by
         unfold tree1; simp only [beq_iff_eq, beq_eq_false_iff_ne, ne_eq] at o1 o2 en; simp [o1, o2, en, zp])
       try clear hib
       go_wp2_with fail
       all_goals
        go_ret
        exact ⟨ret_bool (by rw [HV3.out, hv.out]; rfl), B1.out⟩
  ·
   skip
   by_cases nn : 0 ≤ t.n
   ·
    have nn1 : decide (0 ≤ t.n) = true := decide_eq_true nn
    by_cases zp : t.path.length = 0
    ·
     have zp1 : (t.path.length == 0) = true := by simp [zp]
     have zp2 : ((t.path.length : Int) == 0) = true := by rw [beq_iff_eq]; omega
     cases es : (t.s.toList.isEmpty)
     · skip
       have hv := LH (show tree1 (tagI (tagOf t.s l 0)) t.op t.n t.s t.path.length t.kids.length = false from by
         unfold tree1; simp only [beq_iff_eq, beq_eq_false_iff_ne, ne_eq] at o1; simp [o1, nn, zp, es])
       try clear hib
       go_wp2_with fail
       all_goals
        go_ret
        exact ⟨ret_bool (by rw [HV3.out, hv.out]; rfl), B1.out⟩
     ·
      skip
      by_cases zk : t.kids.length = 0
      ·
       have zk1 : (t.kids.length == 0) = true := by simp [zk]
       have zk2 : ((t.kids.length : Int) == 0) = true := by rw [beq_iff_eq]; omega
       have hv := LH (show tree1 (tagI (tagOf t.s l 0)) t.op t.n t.s t.path.length t.kids.length = true from by
         unfold tree1; simp only [beq_iff_eq, beq_eq_false_iff_ne, ne_eq] at o1; simp [o1, nn, zp, es, zk])
       clear zk zk1
       try clear hib
       go_wp2_with fail
       refine (containsFuncTree 49 (enters Tryz.func49 (by kernel_rfl) (by kernel_rfl)) #[.pointer (some ⟨w.heap.size, 0, none⟩)] (fun x => !x.okS l) t.kids A2 c2 _ (T0.out.below B1.out B1.out.size).2.2.2.2
         (fun x hx A3 c3 A4 c4 w3 hb3 hat3 => by
           have R3 := RL1.out.below hb3 RL1.out.lt
           exact implTreeKid k IH.out l A c w.heap.size x A3 c3 A4 c4 w3 (HBJ.out x hx) HM.out (R3.cell 0) R3.lt (S0.out.below (B1.out.trans (hb3.mono B1.out.size)) (Nat.le_trans B1.out.size hb3.size)) hat3)).mono ?_
       rintro e w3 ⟨rfl, hb3⟩
       rw [all_not_anyT]
       have B3 := LH (B1.out.trans (hb3.mono B1.out.size))
       clear hb3
       go_wp2_with fail
       go_ret
       exact ⟨ret_bool (by rw [HV3.out, hv.out]; simp), B3.out⟩
      · have zk1 : (t.kids.length == 0) = false := by simp [zk]
        have zk2 : ((t.kids.length : Int) == 0) = false := by rw [beq_eq_false_iff_ne]; omega
        have hv := LH (show tree1 (tagI (tagOf t.s l 0)) t.op t.n t.s t.path.length t.kids.length = false from by
          unfold tree1; simp only [beq_iff_eq, beq_eq_false_iff_ne, ne_eq] at o1; simp [o1, nn, zp, es, zk])
        try clear hib
        go_wp2_with fail
        all_goals
         go_ret
         exact ⟨ret_bool (by rw [HV3.out, hv.out]; rfl), B1.out⟩
    ·
     have zp1 : (t.path.length == 0) = false := by simp [zp]
     have zp2 : ((t.path.length : Int) == 0) = false := by rw [beq_eq_false_iff_ne]; omega
     have hv := LH (show tree1 (tagI (tagOf t.s l 0)) t.op t.n t.s t.path.length t.kids.length = false from by
       unfold tree1; simp only [beq_iff_eq, beq_eq_false_iff_ne, ne_eq] at o1; simp [o1, nn, zp])
     try clear hib
     go_wp2_with fail
     all_goals
      go_ret
      exact ⟨ret_bool (by rw [HV3.out, hv.out]; rfl), B1.out⟩
   ·
    have nn1 : decide (0 ≤ t.n) = false := decide_eq_false nn
    have hv := LH (show tree1 (tagI (tagOf t.s l 0)) t.op t.n t.s t.path.length t.kids.length = false from by
      unfold tree1; simp only [beq_iff_eq, beq_eq_false_iff_ne, ne_eq] at o1; simp [o1, nn])
    try clear hib
    go_wp2_with fail
    all_goals
     go_ret
     exact ⟨ret_bool (by rw [HV3.out, hv.out]; rfl), B1.out⟩
theorem implTreeOk (l : List GData) (A : Option Addr) (c : Nat) (t : GTree) (A1 : Option Addr) (c1 : Nat) (A2 : Option Addr) (c2 : Nat) (w : World) (hn : t.nodes ≤ 4611686018427387904) (hm : consN l ≤ 1048576) (hs : Sl w (Lt w.heap.size) 3 A c (l.map GData.toD)) (ht : GTree.At w (Lt w.heap.size) A1 c1 A2 c2 t) :
 Calls Tryz.prog 10 #[.slice A l.length c, .agg #[.int .i64 t.op, .int .i64 t.n, .slice A1 t.path.length c1, .string t.s, .slice A2 t.kids.length c2]] w fun e w' => e = .returned (.bool (t.ok l)) ∧ Below w.heap.size w w' := by
 have E0 : Below w.heap.size w (w.alloc (.cells #[.int .i64 t.op, .int .i64 t.n, .slice A1 t.path.length c1, .string t.s, .slice A2 t.kids.length c2] 34)) := (Below.refl _ _).alloc (Nat.le_refl _) _
 have r0 := LH (Row.new w 34 #[.int .i64 t.op, .int .i64 t.n, .slice A1 t.path.length c1, .string t.s, .slice A2 t.kids.length c2])
 have T0 := LH ht
 have S0 := LH hs
 have HM := LH hm
 clear ht hs hm
 go_enter Tryz.func10, Tryz.ntmps10
 go_wp2_with fail
 refine (implTreeSize t.nodes t A1 c1 A2 c2 _ (Nat.le_refl _) hn (T0.out.below E0 E0.size)).mono ?_
 rintro e w1 ⟨rfl, hb1⟩
 have B1 := E0.trans (hb1.mono E0.size)
 have r1 := LH (r0.out.below hb1 r0.out.lt)
 have hc1 := fun i => r1.out.cell i
 by_cases h : t.nodes ≤ 300
 ·
  have hI : (t.nodes : Int) ≤ 300 := by omega
  have HS := LH (S0.out.keep (keep_below B1 B1.size))
  go_wp2_with fail
  refine (implTree (t.bulk + 1) l A c t A1 c1 A2 c2 _ (by omega) HM.out HS.out (T0.out.below B1 B1.size)).mono ?_
  rintro e w2 ⟨rfl, hb2⟩
  go_wp2_with fail
  go_ret
  exact ⟨ret_bool (by unfold GTree.ok; simp [h]), B1.trans (hb2.mono B1.size)⟩
 ·
  have hI : ¬ (t.nodes : Int) ≤ 300 := by omega
  have hI2 : decide ((t.nodes : Int) ≤ 300) = false := by simpa using hI
  go_wp2_with fail
  go_ret
  exact ⟨ret_bool (by unfold GTree.ok; simp [h]), B1⟩
set_option maxHeartbeats 1000000
def VG (v : GValue) : Prop := (∃ d, valL d v) ∨ valO v ∨ valI v
theorem VG.kids {v k : GValue} (h : VG v) (hk : k ∈ v.kids) : VG k := by
 have hI : ∀ {x y : GValue}, valI x → y ∈ x.kids → VG y := by
  rintro x y ⟨n, -, rfl⟩ hy; simp [GValue.kids] at hy
 have hO : ∀ {x y : GValue}, valO x → y ∈ x.kids → VG y := by
  rintro x y (rfl | ⟨a, ha, rfl⟩) hy
  · simp [GValue.kids] at hy
  · obtain rfl : y = a := by simpa [GValue.kids] using hy
    exact .inr (.inr ha)
 rcases h with ⟨d, h⟩ | h | h
 ·
  cases d with
  | zero => obtain rfl := h; simp [GValue.kids] at hk
  | succ d =>
   rcases h with rfl | ⟨a, b, ha, hb, rfl⟩
   · simp [GValue.kids] at hk
   · rcases (show k = a ∨ k = b by simpa [GValue.kids] using hk) with rfl | rfl
     · exact .inr (.inl ha)
     · exact .inl ⟨d, hb⟩
 · exact hO h hk
 · exact hI h hk
theorem VG.at {v y : GValue} {p : List Int} (h : VG v) (e : valAt v p = some y) : VG y := by
 induction p generalizing v with
 | nil => simp [valAt] at e; subst e; exact h
 | cons k r ih =>
  simp only [valAt] at e
  split at e
  · cases hk : v.kids[k.toNat]? with
    | none => rw [hk] at e; cases e
    | some x => rw [hk] at e; exact ih (h.kids (List.mem_of_getElem? hk)) e
  · cases e
def arity (s : ByteArray) : Nat := if (s.toList == sCons.toList) = true then 2 else if (s.toList == sSome.toList) = true then 1 else 0
theorem ar_nil : arity sNil = 0 := by unfold arity; simp only [bytes_beq]; decide
theorem ar_none : arity sNone = 0 := by unfold arity; simp only [bytes_beq]; decide
theorem ar_cons : arity sCons = 2 := by unfold arity; simp only [bytes_beq]; decide
theorem ar_some : arity sSome = 1 := by unfold arity; simp only [bytes_beq]; decide
theorem VG.arity {v : GValue} (h : VG v) (hk : v.kind = 2) : v.kids.length = arity v.s := by
 rcases h with ⟨d, h⟩ | h | h
 ·
  cases d with
  | zero => obtain rfl := h; exact ar_nil.symm
  | succ d =>
   rcases h with rfl | ⟨a, b, ha, hb, rfl⟩
   · exact ar_nil.symm
   · exact ar_cons.symm
 · rcases h with rfl | ⟨a, ha, rfl⟩
   · exact ar_none.symm
   · exact ar_some.symm
 · obtain ⟨x, -, rfl⟩ := h; simp [GValue.kind] at hk
theorem arity_cong {a b : ByteArray} (h : (a.toList == b.toList) = true) : arity a = arity b := by unfold arity; rw [eq_of_beq h]
theorem valAt_snoc (v : GValue) (p : List Int) (i : Nat) : valAt v (p ++ [(i : Int)]) = (valAt v p).bind fun y => y.kids[i]? := by
 induction p generalizing v with
 | nil =>
  simp only [List.nil_append, valAt, Option.bind_some]
  rw [if_pos (by omega), Int.toNat_natCast]
  cases v.kids[i]? <;> rfl
 | cons k r ih =>
  simp only [List.cons_append, valAt]
  split
  · cases v.kids[k.toNat]? with
    | none => rfl
    | some x => exact ih x
  · rfl
theorem patD_kids {d : Nat} {p k : GNode} (h : patD d p) (hk : k ∈ p.kids) : ∃ d', d = d' + 1 ∧ patD d' k := by
 cases d with
 | zero => obtain rfl := h; simp [GNode.kids] at hk
 | succ d =>
  refine ⟨d, rfl, ?_⟩
  rcases h with rfl | ⟨x, -, rfl⟩ | rfl | rfl | ⟨a, b, ha, hb, rfl⟩ | ⟨a, ha, rfl⟩
  all_goals try (simp [GNode.kids] at hk; done)
  · rcases (show k = a ∨ k = b by simpa [GNode.kids] using hk) with rfl | rfl
    · exact ha
    · exact hb
  · obtain rfl : k = a := by simpa [GNode.kids] using hk
    exact ha
theorem patD_ask {d : Nat} {p : GNode} (h : patD d p) (hb : isAnyB p = false) : (p.op = 20 ∧ p.n = 0 ∧ p.kids.length = arity p.s) ∨ (p.op = 19 ∧ p.s = ⟨#[]⟩ ∧ p.kids = [] ∧ (0 ≤ p.n ∧ p.n < 3)) := by
 cases d with
 | zero => obtain rfl := h; simp [isAnyB, GNode.op] at hb
 | succ d =>
  rcases h with rfl | ⟨x, hx, rfl⟩ | rfl | rfl | ⟨a, b, ha, hb', rfl⟩ | ⟨a, ha, rfl⟩
  · simp [isAnyB, GNode.op] at hb
  · exact .inr ⟨rfl, rfl, rfl, hx⟩
  · exact .inl ⟨rfl, rfl, ar_nil.symm⟩
  · exact .inl ⟨rfl, rfl, ar_none.symm⟩
  · exact .inl ⟨rfl, rfl, ar_cons.symm⟩
  · exact .inl ⟨rfl, rfl, ar_some.symm⟩
theorem fits_any {d : Nat} {p : GNode} {y : GValue} (h : patD d p) (hb : isAnyB p = true) : fitsB p y = true := by
 have hop : p.op = 17 := by
  cases d with
  | zero => obtain rfl := h; rfl
  | succ d =>
   rcases h with rfl | ⟨x, hx, rfl⟩ | rfl | rfl | ⟨a, b, ha, hb', rfl⟩ | ⟨a, ha, rfl⟩
   · rfl
   all_goals simp [isAnyB, GNode.op] at hb
 rw [fitsB_eq, if_pos (.inl hop)]
def askF (v : GValue) (a : GAsk) : Bool := match valAt v a.path with | some y => fitsB a.pat y | none => false
def rowF (v : GValue) (r : GTrow) : Bool := r.asks.all (askF v)
def firstF (v : GValue) (rows : List GTrow) : Int := match rows.find? (rowF v) with | some r => r.alt | none => -1
def AskG (v : GValue) (a : GAsk) : Prop := isAnyB a.pat = false ∧ (∃ y, valAt v a.path = some y) ∧ ∃ d, patD d a.pat
def RowG (v : GValue) (r : GTrow) : Prop := ∀ a ∈ r.asks, AskG v a
def hitP (p : GNode) (y : GValue) : Bool := if p.op = 20 then (y.kind == 2) && (y.s.toList == p.s.toList) else (y.kind == 1) && (y.n == p.n)
theorem all_filter {α : Type} {p q : α → Bool} : ∀ l : List α, (∀ x ∈ l, q x = false → p x = true) → (l.filter q).all p = l.all p
 | [], _ => rfl
 | x :: r, h => by
  have ih := all_filter (p := p) (q := q) r fun y hy => h y (List.mem_cons_of_mem _ hy)
  rw [List.filter_cons]
  cases hq : q x with
  | true => simp only [if_true, List.all_cons, ih]
  | false => simp only [Bool.false_eq_true, if_false, List.all_cons, ih, h x List.mem_cons_self hq, Bool.true_and]
theorem kidsA_fits (v : GValue) (path : List Int) : ∀ (i : Nat) (l : List GNode) (ys : List GValue), l.length = ys.length → (∀ j (h : j < ys.length), valAt v (path ++ [((i + j : Nat) : Int)]) = some ys[j]) → (kidsA path i l).all (askF v) = fitsL l ys
 | i, [], [], _, _ => by simp [kidsA, fitsL]
 | i, [], _ :: _, h, _ => by simp at h
 | i, _ :: _, [], h, _ => by simp at h
 | i, k :: r, y :: ys, h, hv => by
  have h0 := hv 0 (by simp)
  have ih := kidsA_fits v path (i + 1) r ys (by simpa using h) fun j hj => by
   have := hv (j + 1) (by simpa using hj)
   rw [show i + (j + 1) = i + 1 + j by omega] at this
   simpa using this
  simp only [kidsA, List.all_cons, ih, fitsL]
  congr 1
  unfold askF
  simp only [Nat.add_zero] at h0
  rw [h0]
  rfl
theorem kidsA_memP (path : List Int) : ∀ (i : Nat) (l : List GNode) (x : GAsk), x ∈ kidsA path i l → ∃ j, ∃ h : j < l.length, x = ⟨path ++ [((i + j : Nat) : Int)], l[j]⟩
 | _, [], x, h => by simp [kidsA] at h
 | i, k :: r, x, h => by
  simp only [kidsA, List.mem_cons] at h
  rcases h with rfl | h
  · exact ⟨0, by simp, rfl⟩
  · obtain ⟨j, hj, rfl⟩ := kidsA_memP path (i + 1) r x h
    exact ⟨j + 1, by simpa using hj, by rw [show i + (j + 1) = i + 1 + j by omega]; rfl⟩
theorem kids_ask {v y : GValue} {a x : GAsk} (hv : VG v) (hy : valAt v a.path = some y) (hx : AskG v x) (hxp : x.path = a.path) (hh : hitP x.pat y = true) :
 (bareA (kidsA a.path 0 x.pat.kids)).all (askF v) = askF v x ∧ ∀ z ∈ bareA (kidsA a.path 0 x.pat.kids), AskG v z := by
 obtain ⟨hb, -, d, hp⟩ := hx
 have hvy := hv.at hy
 have hax : askF v x = fitsB x.pat y := by unfold askF; rw [hxp, hy]
 rcases patD_ask hp hb with ⟨ho, hn, har⟩ | ⟨ho, hs, hk, -⟩
 ·
  unfold hitP at hh
  rw [if_pos ho, Bool.and_eq_true, beq_iff_eq] at hh
  have hlen : x.pat.kids.length = y.kids.length := by rw [har, hvy.arity hh.1, arity_cong hh.2]
  have hpl : ∀ j (h : j < y.kids.length), valAt v (a.path ++ [((0 + j : Nat) : Int)]) = some y.kids[j] := fun j hj => by
   rw [Nat.zero_add, valAt_snoc, hy]; simp [hj]
  have hall := kidsA_fits v a.path 0 x.pat.kids y.kids hlen hpl
  constructor
  ·
   unfold bareA
   rw [all_filter, hall, hax, fitsB_eq, if_neg (by omega), if_neg (by omega), if_pos ho, hh.1]
   · simp [hh.2]
   · intro z hz hq
     obtain ⟨j, hj, rfl⟩ := kidsA_memP _ _ _ _ hz
     obtain ⟨d', rfl, hpk⟩ := patD_kids hp (List.getElem_mem hj)
     unfold askF
     rw [hpl j (by omega)]
     exact fits_any hpk (by simpa using hq)
  · intro z hz
    unfold bareA at hz
    rw [List.mem_filter] at hz
    obtain ⟨j, hj, rfl⟩ := kidsA_memP _ _ _ _ hz.1
    obtain ⟨d', rfl, hpk⟩ := patD_kids hp (List.getElem_mem hj)
    exact ⟨by simpa using hz.2, ⟨_, hpl j (by omega)⟩, d', hpk⟩
 ·
  rw [hk]
  unfold hitP at hh
  rw [if_neg (by omega)] at hh
  refine ⟨?_, fun z hz => by simp [kidsA, bareA] at hz⟩
  rw [hax, fitsB_eq, if_neg (by omega), if_pos ho, hh]
  rfl
theorem hit_same {p q : GNode} (h : sameP p q = true) (y : GValue) : hitP p y = hitP q y := by
 unfold sameP at h
 simp only [Bool.and_eq_true, beq_iff_eq] at h
 unfold hitP
 rw [h.1, h.2.1, h.2.2]
theorem not_hit {d : Nat} {p : GNode} {y : GValue} (hp : patD d p) (hb : isAnyB p = false) (h : hitP p y = false) : fitsB p y = false := by
 unfold hitP at h
 rcases patD_ask hp hb with ⟨ho, hn, har⟩ | ⟨ho, hs, hk, -⟩
 · rw [if_pos ho] at h
   rw [fitsB_eq, if_neg (by omega), if_neg (by omega), if_pos ho, h]; rfl
 · rw [if_neg (by omega)] at h
   rw [fitsB_eq, if_neg (by omega), if_pos ho, h]
theorem hit_one {d e : Nat} {p q : GNode} {y : GValue} (hp : patD d p) (hb : isAnyB p = false) (hq : patD e q) (hc : isAnyB q = false) (h1 : hitP p y = true) (h2 : hitP q y = true) : sameP p q = true := by
 unfold hitP at h1 h2
 unfold sameP
 rcases patD_ask hp hb with ⟨ho, hn, har⟩ | ⟨ho, hs, hk, -⟩
 ·
  rw [if_pos ho, Bool.and_eq_true, beq_iff_eq] at h1
  rcases patD_ask hq hc with ⟨ho2, hn2, har2⟩ | ⟨ho2, hs2, hk2, -⟩
  · rw [if_pos ho2, Bool.and_eq_true, beq_iff_eq] at h2
    have e1 := eq_of_beq h1.2
    have e2 := eq_of_beq h2.2
    rw [ho, ho2, hn, hn2, ← e1, ← e2]; simp
  · rw [if_neg (by omega), Bool.and_eq_true, beq_iff_eq] at h2
    omega
 ·
  rw [if_neg (by omega), Bool.and_eq_true, beq_iff_eq] at h1
  rcases patD_ask hq hc with ⟨ho2, hn2, har2⟩ | ⟨ho2, hs2, hk2, -⟩
  · rw [if_pos ho2, Bool.and_eq_true, beq_iff_eq] at h2
    omega
  · rw [if_neg (by omega), Bool.and_eq_true, beq_iff_eq] at h2
    have e1 := eq_of_beq h1.2
    have e2 := eq_of_beq h2.2
    rw [ho, ho2, hs, hs2, ← e1, ← e2]; simp
theorem split_at (l : List GAsk) (k : Nat) (h : k < l.length) : l = l.take k ++ [l[k]] ++ l.drop (k + 1) := by
 rw [← take_snoc' l k h, List.take_append_drop]
theorem yes1_ok {v y : GValue} {a : GAsk} {r : GTrow} (hv : VG v) (ha : AskG v a) (hy : valAt v a.path = some y) (hh : hitP a.pat y = true) (hr : RowG v r) :
 match yes1 a r with | some r' => r'.alt = r.alt ∧ rowF v r' = rowF v r ∧ RowG v r' | none => rowF v r = false := by
 unfold yes1
 by_cases hn : findA r.asks a.path < 0
 · rw [if_pos hn]; exact ⟨rfl, rfl, hr⟩
 ·
  rw [if_neg hn]
  obtain ⟨k, hk, ek, hpk, -⟩ := idxI_spec (p := fun x : GAsk => x.path == a.path) (l := r.asks) (show 0 ≤ findA r.asks a.path by omega)
  have ek2 : (findA r.asks a.path).toNat = k := by
   have : findA r.asks a.path = (k : Int) := ek
   omega
  rw [ek2, List.getElem?_eq_getElem hk]
  dsimp only
  have hxp : r.asks[k].path = a.path := by simpa using hpk
  have hxg := hr _ (List.getElem_mem hk)
  have hsp := split_at r.asks k hk
  by_cases hs : sameP r.asks[k].pat a.pat = true
  ·
   rw [if_pos hs]
   have hka := kids_ask (a := a) (x := r.asks[k]) hv hy hxg hxp (by rw [hit_same hs]; exact hh)
   refine ⟨rfl, ?_, ?_⟩
   · unfold rowF
     conv => rhs; rw [hsp]
     simp only [List.all_append, List.all_cons, List.all_nil, Bool.and_true, hka.1]
   · intro z hz
     simp only [List.mem_append] at hz
     rcases hz with (hz | hz) | hz
     · exact hr z (List.mem_of_mem_take hz)
     · exact hka.2 z hz
     · exact hr z (List.mem_of_mem_drop hz)
  ·
   rw [if_neg hs]
   obtain ⟨hb, -, d, hp⟩ := hxg
   obtain ⟨hb2, -, e, hp2⟩ := ha
   have hnh : hitP r.asks[k].pat y = false := by
    rw [← Bool.not_eq_true]
    intro h1
    exact hs (hit_one hp hb hp2 hb2 h1 hh)
   have hf := not_hit hp hb hnh
   have haf : askF v r.asks[k] = false := by unfold askF; rw [hxp, hy]; exact hf
   unfold rowF
   rw [List.all_eq_false]
   exact ⟨_, List.getElem_mem hk, by rw [haf]; simp⟩
theorem no1_ok {v y : GValue} {a : GAsk} {r : GTrow} (ha : AskG v a) (hy : valAt v a.path = some y) (hh : hitP a.pat y = false) (hr : RowG v r) (hno : no1 a r = false) : rowF v r = false := by
 unfold no1 at hno
 by_cases hn : findA r.asks a.path < 0
 · rw [if_pos hn] at hno; cases hno
 ·
  rw [if_neg hn] at hno
  obtain ⟨k, hk, ek, hpk, -⟩ := idxI_spec (p := fun x : GAsk => x.path == a.path) (l := r.asks) (show 0 ≤ findA r.asks a.path by omega)
  have ek2 : (findA r.asks a.path).toNat = k := by
   have : findA r.asks a.path = (k : Int) := ek
   omega
  rw [ek2, List.getElem?_eq_getElem hk] at hno
  dsimp only at hno
  have hs : sameP r.asks[k].pat a.pat = true := by simpa using hno
  have hxp : r.asks[k].path = a.path := by simpa using hpk
  obtain ⟨hb, -, d, hp⟩ := hr _ (List.getElem_mem hk)
  have hf := not_hit hp hb (y := y) (by rw [hit_same hs]; exact hh)
  have haf : askF v r.asks[k] = false := by unfold askF; rw [hxp, hy]; exact hf
  unfold rowF
  rw [List.all_eq_false]
  exact ⟨_, List.getElem_mem hk, by rw [haf]; simp⟩
theorem first_cons (v : GValue) (r : GTrow) (rows : List GTrow) : firstF v (r :: rows) = if rowF v r = true then r.alt else firstF v rows := by
 unfold firstF
 rw [List.find?_cons]
 cases rowF v r <;> rfl
theorem first_yes {v y : GValue} {a : GAsk} (hv : VG v) (ha : AskG v a) (hy : valAt v a.path = some y) (hh : hitP a.pat y = true) : ∀ rows : List GTrow, (∀ r ∈ rows, RowG v r) → firstF v (yesR a rows) = firstF v rows ∧ ∀ r ∈ yesR a rows, RowG v r
 | [], _ => ⟨rfl, fun r hr => by simp [yesR] at hr⟩
 | r :: rows, h => by
  have ih := first_yes hv ha hy hh rows fun x hx => h x (List.mem_cons_of_mem _ hx)
  have h1 := yes1_ok hv ha hy hh (h r List.mem_cons_self)
  unfold yesR at ih ⊢
  rw [List.filterMap_cons]
  cases hc : yes1 a r with
  | none =>
   rw [hc] at h1
   dsimp only at h1 ⊢
   rw [first_cons, h1]
   exact ih
  | some r' =>
   rw [hc] at h1
   dsimp only at h1 ⊢
   rw [first_cons, first_cons, h1.1, h1.2.1, ih.1]
   refine ⟨rfl, fun x hx => ?_⟩
   rcases List.mem_cons.1 hx with rfl | hx
   · exact h1.2.2
   · exact ih.2 x hx
theorem first_no {v y : GValue} {a : GAsk} (ha : AskG v a) (hy : valAt v a.path = some y) (hh : hitP a.pat y = false) : ∀ rows : List GTrow, (∀ r ∈ rows, RowG v r) → firstF v (noR a rows) = firstF v rows ∧ ∀ r ∈ noR a rows, RowG v r
 | [], _ => ⟨rfl, fun r hr => by simp [noR] at hr⟩
 | r :: rows, h => by
  have ih := first_no ha hy hh rows fun x hx => h x (List.mem_cons_of_mem _ hx)
  unfold noR at ih ⊢
  rw [List.filter_cons]
  cases hc : no1 a r with
  | false =>
   have h1 := no1_ok ha hy hh (h r List.mem_cons_self) hc
   simp only [Bool.false_eq_true, if_false]
   rw [first_cons, h1]
   exact ih
  | true =>
   simp only [if_true]
   rw [first_cons, first_cons, ih.1]
   refine ⟨rfl, fun x hx => ?_⟩
   rcases List.mem_cons.1 hx with rfl | hx
   · exact h _ List.mem_cons_self
   · exact ih.2 x hx
theorem hit_tree (a : GAsk) (kids : List GTree) (y : GValue) (hp : a.pat.op = 20 ∨ a.pat.op = 19) : hitB (askT a kids) y = hitP a.pat y := by
 unfold askT hitB hitP
 rcases hp with h | h
 · rw [if_pos h, if_pos h]; rfl
 · have h0 : ¬ a.pat.op = 20 := by omega
   rw [if_neg h0, if_neg h0]; rfl
theorem askT_path (a : GAsk) (kids : List GTree) : (askT a kids).path = a.path ∧ (askT a kids).kids = kids ∧ (((askT a kids).op == 3) = true ∨ ((askT a kids).op == 4) = true) := by
 unfold askT; split <;> exact ⟨rfl, rfl, by simp [GTree.op]⟩
theorem askT_bulk (a : GAsk) (t1 t2 : GTree) : t1.bulk + 1 ≤ (askT a [t1, t2]).bulk ∧ t2.bulk + 1 ≤ (askT a [t1, t2]).bulk := by
 have h := GTree.bulk_eq (askT a [t1, t2])
 rw [(askT_path a [t1, t2]).2.1] at h
 simp only [bulkL] at h
 omega
theorem run_grow {v : GValue} (hv : VG v) : ∀ (k many : Nat) (rows : List GTrow) (f : Nat), (∀ r ∈ rows, RowG v r) → 300 < many + k → (growV k many rows).2 ≤ 300 → (growV k many rows).1.bulk < f → runF v f (growV k many rows).1 = firstF v rows
 | 0, many, rows, f, _, hk, h2, _ => by
  have : (growV 0 many rows).2 = many + 1 := rfl
  omega
 | k + 1, many, rows, f, hr, hk, h2, hf => by
  have hge : (growV (k + 1) many rows) = growB (growV k) many rows := rfl
  rw [hge] at h2 hf ⊢
  cases f with
  | zero => omega
  | succ f =>
  unfold growB at h2 hf ⊢
  by_cases hm : 300 < many + 1
  · rw [if_pos hm] at h2; omega
  ·
   rw [if_neg hm] at h2 hf ⊢
   cases rows with
   | nil => dsimp only; rw [runF_done rfl rfl]; rfl
   | cons r rest =>
    dsimp only at h2 hf ⊢
    cases hra : r.asks with
    | nil =>
     rw [runF_done rfl rfl, first_cons]
     have : rowF v r = true := by unfold rowF; rw [hra]; rfl
     rw [this]; rfl
    | cons a t =>
     rw [hra] at h2 hf
     dsimp only at h2 hf ⊢
     have hag : AskG v a := hr r List.mem_cons_self a (by rw [hra]; exact List.mem_cons_self)
     obtain ⟨y, hy⟩ := hag.2.1
     obtain ⟨d, hp⟩ := hag.2.2
     have hop : a.pat.op = 20 ∨ a.pat.op = 19 := by rcases patD_ask hp hag.1 with h | h; exact .inl h.1; exact .inr h.1
     have hc := growV_less k (growV k (many + 1) (yesR a (r :: rest))).2 (noR a (r :: rest))
     obtain ⟨T1, hT1⟩ : ∃ T, growV k (many + 1) (yesR a (r :: rest)) = T := ⟨_, rfl⟩
     obtain ⟨T2, hT2⟩ : ∃ T, growV k T1.2 (noR a (r :: rest)) = T := ⟨_, rfl⟩
     rw [hT1] at h2 hf hc ⊢
     rw [hT2] at h2 hf hc ⊢
     obtain ⟨p1, p2, p3⟩ := askT_path a [T1.1, T2.1]
     have hbk := askT_bulk a T1.1 T2.1
     have hless := growV_less k (many + 1) (yesR a (r :: rest))
     rw [hT1] at hless
     cases hh : hitP a.pat y with
     | true =>
      have hfy := first_yes hv hag hy hh (r :: rest) hr
      rw [runF_step (y := y) (q := 0) p3 (by rw [p1]; exact hy) (by rw [p2]; rfl) (by rw [hit_tree _ _ _ hop, hh]; rfl) (by rw [p2]; simp)]
      have ih := run_grow hv k (many + 1) (yesR a (r :: rest)) f hfy.2 (by omega) (by rw [hT1]; omega) (by rw [hT1]; omega)
      rw [hT1, hfy.1] at ih
      rw [← ih]
      congr 1
      simp [p2]
     | false =>
      have hfn := first_no hag hy hh (r :: rest) hr
      rw [runF_step (y := y) (q := 1) p3 (by rw [p1]; exact hy) (by rw [p2]; rfl) (by rw [hit_tree _ _ _ hop, hh]; rfl) (by rw [p2]; simp)]
      have ih := run_grow hv k T1.2 (noR a (r :: rest)) f hfn.2 (by omega) (by rw [hT2]; omega) (by rw [hT2]; omega)
      rw [hT2, hfn.1] at ih
      rw [← ih]
      congr 1
      simp [p2]
theorem tagIn_both (s : ByteArray) : ∀ (l : List GCon) (a b : Nat), (tagIn s l a).isSome = (tagIn s l b).isSome
 | [], _, _ => rfl
 | c :: r, a, b => by
  simp only [tagIn]
  split
  · rfl
  · exact tagIn_both s r (a + 1) (b + 1)
theorem conOf_tag (s : ByteArray) : ∀ (ds : List GData) (j n : Nat), (conOf s ds j).isSome = true → (tagOf s ds n).isSome = true
 | [], _, _, h => by simp [conOf] at h
 | d :: r, j, n, h => by
  have hb := tagIn_both s d.cons 0 n
  simp only [conOf] at h
  simp only [tagOf]
  cases h0 : tagIn s d.cons 0 with
  | some k =>
   rw [h0] at hb
   cases h1 : tagIn s d.cons n with
   | some x => rfl
   | none => rw [h1] at hb; simp at hb
  | none =>
   rw [h0] at h hb
   cases h1 : tagIn s d.cons n with
   | some x => rfl
   | none => exact conOf_tag s r (j + 1) (n + d.cons.length) h
theorem argsOk_tag {ds : List GData} {s : ByteArray} {n : Nat} (h : argsOk ds s n = true) : 0 ≤ tagI (tagOf s ds 0) := by
 unfold argsOk conConV at h
 have hc : (conOf s ds 0).isSome = true := by
  cases hco : conOf s ds 0 with
  | some x => rfl
  | none => rw [hco] at h; simp at h
 have ht := conOf_tag s ds 0 0 hc
 cases hto : tagOf s ds 0 with
 | some x => simp [tagI]
 | none => rw [hto] at ht; simp at ht
def AskO (ds : List GData) (a : GAsk) : Prop := isAnyB a.pat = false ∧ (a.path.all fun x => decide (0 ≤ x)) = true ∧ conOk ds a.pat = true ∧ ∃ d, patD d a.pat ∧ a.path.length + d ≤ 24
def RowO (ds : List GData) (r : GTrow) : Prop := 0 ≤ r.alt ∧ ∀ a ∈ r.asks, AskO ds a
theorem kids_askO {ds : List GData} {x : GAsk} (hx : AskO ds x) : ∀ z ∈ bareA (kidsA x.path 0 x.pat.kids), AskO ds z := by
 obtain ⟨hb, hp, hc, d, hd, hl⟩ := hx
 intro z hz
 unfold bareA at hz
 rw [List.mem_filter] at hz
 obtain ⟨j, hj, rfl⟩ := kidsA_memP _ _ _ _ hz.1
 obtain ⟨d', rfl, hpk⟩ := patD_kids hd (List.getElem_mem hj)
 rw [conOk_eq, Bool.and_eq_true, conOkL_all, List.all_eq_true] at hc
 refine ⟨by simpa using hz.2, ?_, hc.2 _ (List.getElem_mem hj), d', hpk, by simp; omega⟩
 rw [List.all_append, hp]
 simp
theorem yesR_O {ds : List GData} {a : GAsk} {rows : List GTrow} (h : ∀ r ∈ rows, RowO ds r) : ∀ r ∈ yesR a rows, RowO ds r := by
 intro r' hr'
 unfold yesR at hr'
 obtain ⟨r, hr, e⟩ := List.mem_filterMap.1 hr'
 have hro := h r hr
 unfold yes1 at e
 by_cases hn : findA r.asks a.path < 0
 · rw [if_pos hn] at e
   obtain rfl : r = r' := by simpa using e
   exact hro
 ·
  rw [if_neg hn] at e
  obtain ⟨k, hk, ek, hpk, -⟩ := idxI_spec (p := fun x : GAsk => x.path == a.path) (l := r.asks) (show 0 ≤ findA r.asks a.path by omega)
  have ek2 : (findA r.asks a.path).toNat = k := by
   have : findA r.asks a.path = (k : Int) := ek
   omega
  rw [ek2, List.getElem?_eq_getElem hk] at e
  dsimp only at e
  have hxp : r.asks[k].path = a.path := by simpa using hpk
  split at e
  ·
   obtain rfl := (Option.some.inj e).symm
   refine ⟨hro.1, fun z hz => ?_⟩
   simp only [List.mem_append] at hz
   rcases hz with (hz | hz) | hz
   · exact hro.2 z (List.mem_of_mem_take hz)
   · rw [← hxp] at hz
     exact kids_askO (hro.2 _ (List.getElem_mem hk)) z hz
   · exact hro.2 z (List.mem_of_mem_drop hz)
  · cases e
theorem empty_isE : (ByteArray.mk #[]).toList.isEmpty = true := by rw [ByteArray.toList_eq]; rfl
theorem tree1_done (tg n : Int) (s : ByteArray) (np nk : Nat) : tree1 tg 1 n s np nk = (decide (0 ≤ n) && (np == 0 && (s.toList.isEmpty && nk == 0))) := by unfold tree1; rw [if_pos rfl]
theorem tree1_fail (tg n : Int) (s : ByteArray) (np nk : Nat) : tree1 tg 2 n s np nk = (n == 0 && (np == 0 && (s.toList.isEmpty && nk == 0))) := by unfold tree1; rw [if_neg (by decide), if_pos rfl]
theorem tree1_con (tg n : Int) (s : ByteArray) (np nk : Nat) : tree1 tg 3 n s np nk = (n == 0 && (decide (0 ≤ tg) && (nk == 2 && decide (np ≤ 24)))) := by unfold tree1; rw [if_neg (by decide), if_neg (by decide), if_pos rfl]
theorem tree1_num (tg n : Int) (s : ByteArray) (np nk : Nat) : tree1 tg 4 n s np nk = (inB n (-1073741824) 1073741823 && (s.toList.isEmpty && (nk == 2 && decide (np ≤ 24)))) := by unfold tree1; rw [if_neg (by decide), if_neg (by decide), if_neg (by decide), if_pos rfl]
theorem askT_ok {ds : List GData} {a : GAsk} {t1 t2 : GTree} (ha : AskO ds a) (h1 : t1.okS ds = true) (h2 : t2.okS ds = true) : (askT a [t1, t2]).okS ds = true := by
 obtain ⟨hb, hp, hc, d, hd, hl⟩ := ha
 rw [GTree.okS_eq, (askT_path a [t1, t2]).1, (askT_path a [t1, t2]).2.1, hp]
 have hk : ([t1, t2].all (GTree.okS ds)) = true := by simp [h1, h2]
 rw [hk, Bool.true_and, Bool.and_true]
 unfold askT
 rcases patD_ask hd hb with ⟨ho, hn, har⟩ | ⟨ho, hs, hkk, hr⟩
 ·
  rw [if_pos ho]
  rw [conOk_eq, Bool.and_eq_true, ho] at hc
  have hag : argsOk ds a.pat.s a.pat.kids.length = true := by simpa using hc.1
  have ht := argsOk_tag hag
  show tree1 (tagI (tagOf a.pat.s ds 0)) 3 0 a.pat.s a.path.length 2 = true
  rw [tree1_con, decide_eq_true ht, decide_eq_true (by omega)]
  rfl
 ·
  rw [if_neg (by omega)]
  show tree1 (tagI (tagOf ⟨#[]⟩ ds 0)) 4 a.pat.n ⟨#[]⟩ a.path.length 2 = true
  rw [tree1_num, empty_isE, decide_eq_true (by omega)]
  unfold inB
  simp
  omega
theorem grow_ok {ds : List GData} : ∀ (k many : Nat) (rows : List GTrow), (∀ r ∈ rows, RowO ds r) → 300 < many + k → (growV k many rows).2 ≤ 300 → (growV k many rows).1.okS ds = true ∧ (growV k many rows).1.nodes + many ≤ (growV k many rows).2
 | 0, many, rows, _, hk, h2 => by
  have : (growV 0 many rows).2 = many + 1 := rfl
  omega
 | k + 1, many, rows, hr, hk, h2 => by
  have hge : (growV (k + 1) many rows) = growB (growV k) many rows := rfl
  rw [hge] at h2 ⊢
  unfold growB at h2 ⊢
  by_cases hm : 300 < many + 1
  · rw [if_pos hm] at h2; omega
  ·
   rw [if_neg hm] at h2 ⊢
   cases rows with
   | nil =>
    refine ⟨?_, ?_⟩
    · rw [GTree.okS_eq]
      show (true && (tree1 (tagI (tagOf ⟨#[]⟩ ds 0)) 2 0 ⟨#[]⟩ 0 0 && true)) = true
      rw [tree1_fail, empty_isE]
      rfl
    · dsimp only; rw [GTree.nodes_eq]; simp [GTree.kids, GTree.nodesL]; omega
   | cons r rest =>
    dsimp only at h2 ⊢
    cases hra : r.asks with
    | nil =>
     have h0 := (hr r List.mem_cons_self).1
     refine ⟨?_, ?_⟩
     · rw [GTree.okS_eq]
       show (true && (tree1 (tagI (tagOf ⟨#[]⟩ ds 0)) 1 r.alt ⟨#[]⟩ 0 0 && true)) = true
       rw [tree1_done, empty_isE, decide_eq_true h0]
       rfl
     · rw [GTree.nodes_eq]; simp [GTree.kids, GTree.nodesL]; omega
    | cons a t =>
     rw [hra] at h2
     dsimp only at h2 ⊢
     have hag : AskO ds a := (hr r List.mem_cons_self).2 a (by rw [hra]; exact List.mem_cons_self)
     have hl1 := growV_less k (many + 1) (yesR a (r :: rest))
     have hl2 := growV_less k (growV k (many + 1) (yesR a (r :: rest))).2 (noR a (r :: rest))
     obtain ⟨T1, hT1⟩ : ∃ T, growV k (many + 1) (yesR a (r :: rest)) = T := ⟨_, rfl⟩
     obtain ⟨T2, hT2⟩ : ∃ T, growV k T1.2 (noR a (r :: rest)) = T := ⟨_, rfl⟩
     rw [hT1] at h2 hl1 hl2 ⊢
     rw [hT2] at h2 hl2 ⊢
     have i1 := grow_ok k (many + 1) (yesR a (r :: rest)) (yesR_O hr) (by omega) (by rw [hT1]; omega)
     have i2 := grow_ok k T1.2 (noR a (r :: rest)) (fun x hx => hr x (List.mem_filter.1 hx).1) (by omega) (by rw [hT2]; omega)
     rw [hT1] at i1
     rw [hT2] at i2
     refine ⟨askT_ok hag i1.1 i2.1, ?_⟩
     rw [GTree.nodes_eq, (askT_path a [T1.1, T2.1]).2.1]
     simp only [GTree.nodesL]
     omega
theorem rowA_F (v : GValue) (i : Nat) {d : Nat} {p : GNode} (hp : patD d p) : rowF v (rowA i p) = fitsB p v := by
 unfold rowF rowA bareA
 rw [List.filter_cons, List.filter_nil]
 cases hb : isAnyB p with
 | true => simp only [Bool.not_true, Bool.false_eq_true, if_false, List.all_nil]; exact (fits_any hp hb).symm
 | false => simp only [Bool.not_false, if_true, List.all_cons, List.all_nil, Bool.and_true]; unfold askF; simp only [valAt]
theorem idxI_geC {α : Type} (p : α → Bool) : ∀ l : List α, -1 ≤ idxI p l
 | [] => by simp [idxI]
 | x :: r => by have := idxI_geC p r; unfold idxI; split; omega; split <;> omega
theorem idxI_hit {α : Type} {p : α → Bool} {x : α} {r : List α} (h : p x = true) : idxI p (x :: r) = 0 := by simp [idxI, h]
theorem idxI_miss {α : Type} {p : α → Bool} {x : α} {r : List α} (h : ¬ p x = true) : (idxI p (x :: r) < 0 ∧ idxI p r < 0 ∧ idxI p (x :: r) = -1) ∨ (0 ≤ idxI p r ∧ idxI p (x :: r) = idxI p r + 1) := by
 simp only [idxI, h]
 by_cases h0 : idxI p r < 0
 · exact .inl (by simp [h0])
 · exact .inr ⟨by omega, by simp [h0]⟩
theorem rows_first (v : GValue) : ∀ (l : List GNode) (i : Nat), (∀ p ∈ l, ∃ d, patD d p) → firstF v (rowsA i l) = if idxI (fun p => fitsB p v) l < 0 then -1 else (i : Int) + idxI (fun p => fitsB p v) l
 | [], i, _ => by simp [rowsA, firstF, idxI]
 | p :: r, i, h => by
  obtain ⟨d, hp⟩ := h p List.mem_cons_self
  have ih := rows_first v r (i + 1) fun q hq => h q (List.mem_cons_of_mem _ hq)
  simp only [rowsA]
  rw [first_cons, rowA_F v i hp, ih]
  by_cases hf : fitsB p v = true
  · rw [if_pos hf, idxI_hit (p := fun p => fitsB p v) hf, if_neg (by omega)]; simp [rowA]
  · rw [if_neg hf]
    rcases idxI_miss (p := fun p => fitsB p v) (r := r) hf with ⟨h1, h2, h3⟩ | ⟨h1, h2⟩
    · rw [if_pos h1, if_pos h2]
    · rw [if_neg (by omega), if_neg (by omega), h2]; omega
theorem rows_G (v : GValue) : ∀ (l : List GNode) (i : Nat), (∀ p ∈ l, ∃ d, patD d p) → ∀ r ∈ rowsA i l, RowG v r
 | [], i, _, r, hr => by simp [rowsA] at hr
 | p :: q, i, h, r, hr => by
  simp only [rowsA, List.mem_cons] at hr
  rcases hr with rfl | hr
  · intro a ha
    unfold rowA bareA at ha
    rw [List.mem_filter] at ha
    obtain ⟨ha1, ha2⟩ := ha
    obtain rfl : a = ⟨[], p⟩ := by simpa using ha1
    exact ⟨by simpa using ha2, ⟨v, by simp [valAt]⟩, h p List.mem_cons_self⟩
  · exact rows_G v q (i + 1) (fun x hx => h x (List.mem_cons_of_mem _ hx)) r hr
theorem rows_O (ds : List GData) (d : Nat) (hd : d ≤ 24) : ∀ (l : List GNode) (i : Nat), (∀ p ∈ l, patD d p ∧ conOk ds p = true) → ∀ r ∈ rowsA i l, RowO ds r
 | [], i, _, r, hr => by simp [rowsA] at hr
 | p :: q, i, h, r, hr => by
  simp only [rowsA, List.mem_cons] at hr
  rcases hr with rfl | hr
  · refine ⟨by simp [rowA], fun a ha => ?_⟩
    unfold rowA bareA at ha
    rw [List.mem_filter] at ha
    obtain ⟨ha1, ha2⟩ := ha
    obtain rfl : a = ⟨[], p⟩ := by simpa using ha1
    exact ⟨by simpa using ha2, rfl, (h p List.mem_cons_self).2, d, (h p List.mem_cons_self).1, by simpa using hd⟩
  · exact rows_O ds d hd q (i + 1) (fun x hx => h x (List.mem_cons_of_mem _ hx)) r hr
theorem idxI_map {α β : Type} (f : α → β) (p : β → Bool) : ∀ l : List α, idxI p (l.map f) = idxI (fun x => p (f x)) l
 | [] => rfl
 | x :: r => by simp only [List.map_cons, idxI, idxI_map f p r]
theorem trees_op {ds : List GData} {l : List GNode} (h : (treesV ds l).2 = false) : treesV ds l = (zeroT, false) := by
 unfold treesV at h ⊢
 split
 · split
   · rename_i h1 h2; rw [if_pos h1, if_pos h2] at h; cases h
   · rfl
 · rfl
theorem cases_law {ds : List GData} {alts : List GNode} {v : GValue} (ha : AltsD (patD 3) alts) (hv : valL 3 v) (h : (treesV ds (alts.map patOf)).2 = true) :
 runF v ((treesV ds (alts.map patOf)).1.bulk + 1) (treesV ds (alts.map patOf)).1 = idxI (fun a => fitsB (patOf a) v) alts ∧ (treesV ds (alts.map patOf)).1.ok ds = true := by
 have hp : ∀ p ∈ alts.map patOf, patD 3 p := fun p hp => by
  obtain ⟨a, ham, rfl⟩ := List.mem_map.1 hp
  obtain ⟨j, hj, rfl⟩ := List.getElem_of_mem ham
  obtain ⟨q, hq, e⟩ := ha.2 j hj
  rw [e]
  exact hq
 unfold treesV at h ⊢
 split at h
 ·
  rename_i hc
  rw [if_pos hc]
  split at h
  ·
   rename_i h3
   rw [if_pos h3]
   have hvg : VG v := .inl ⟨3, hv⟩
   have hpe : ∀ p ∈ alts.map patOf, ∃ d, patD d p := fun p h => ⟨3, hp p h⟩
   have h1 := run_grow hvg 301 0 (rowsA 0 (alts.map patOf)) _ (rows_G v _ 0 hpe) (by omega) h3 (Nat.lt_succ_self _)
   have h2 := grow_ok (ds := ds) 301 0 (rowsA 0 (alts.map patOf)) (rows_O ds 3 (by omega) _ 0 fun p h => ⟨hp p h, (List.all_eq_true.1 hc) p h⟩) (by omega) h3
   rw [rows_first v _ 0 hpe, idxI_map] at h1
   refine ⟨?_, ?_⟩
   · dsimp only
     rw [h1]
     have hg := idxI_geC (fun a => fitsB (patOf a) v) alts
     split <;> omega
   · dsimp only
     unfold GTree.ok
     rw [h2.1, Bool.and_true]
     exact decide_eq_true (by omega)
  · cases h
 · cases h
def fromF (v : GValue) (alts : List GNode) (i : Nat) : Int := if idxI (fun a => fitsB (patOf a) v) (alts.drop i) < 0 then -1 else (i : Int) + idxI (fun a => fitsB (patOf a) v) (alts.drop i)
theorem fromF_end (v : GValue) (alts : List GNode) : fromF v alts alts.length = -1 := by unfold fromF; rw [List.drop_length]; rfl
theorem fromF_step (v : GValue) (alts : List GNode) (i : Nat) (h : i < alts.length) : fromF v alts i = if fitsB (patOf alts[i]) v = true then (i : Int) else fromF v alts (i + 1) := by
 unfold fromF
 rw [List.drop_eq_getElem_cons h]
 by_cases hf : fitsB (patOf alts[i]) v = true
 · rw [if_pos hf, idxI_hit (p := fun a => fitsB (patOf a) v) hf, if_neg (by omega)]; omega
 · rw [if_neg hf]
   rcases idxI_miss (p := fun a => fitsB (patOf a) v) (r := alts.drop (i + 1)) hf with ⟨h1, h2, h3⟩ | ⟨h1, h2⟩
   · rw [if_pos h1, if_pos h2]
   · rw [if_neg (by omega), if_neg (by omega), h2]; omega
theorem fromF_zero (v : GValue) (alts : List GNode) : fromF v alts 0 = idxI (fun a => fitsB (patOf a) v) alts := by
 unfold fromF
 rw [List.drop_zero]
 have hg := idxI_geC (fun a => fitsB (patOf a) v) alts
 split <;> omega
theorem patD_bulk : ∀ (d : Nat) (p : GNode), patD d p → p.bulk + 6 ≤ 6 * 2 ^ d
 | 0, p, h => by obtain rfl := h; rw [GNode.bulk_eq]; simp [GNode.s, GNode.t, GNode.kids, bulkL, ByteArray.size]
 | d + 1, p, h => by
  have h1 : 1 ≤ 2 ^ d := Nat.one_le_two_pow
  rw [Nat.pow_succ]
  rcases h with rfl | ⟨x, hx, rfl⟩ | rfl | rfl | ⟨a, b, ha, hb', rfl⟩ | ⟨a, ha, rfl⟩
  · rw [GNode.bulk_eq]; simp [GNode.s, GNode.t, GNode.kids, bulkL, ByteArray.size]; omega
  · rw [GNode.bulk_eq]; simp [GNode.s, GNode.t, GNode.kids, bulkL, ByteArray.size]; omega
  · rw [GNode.bulk_eq]; simp [GNode.s, GNode.t, GNode.kids, bulkL, ByteArray.size, sNil]; omega
  · rw [GNode.bulk_eq]; simp [GNode.s, GNode.t, GNode.kids, bulkL, ByteArray.size, sNone]; omega
  · have i1 := patD_bulk d a ha
    have i2 := patD_bulk d b hb'
    rw [GNode.bulk_eq]; simp [GNode.s, GNode.t, GNode.kids, bulkL, ByteArray.size, sCons]; omega
  · have i1 := patD_bulk d a ha
    rw [GNode.bulk_eq]; simp [GNode.s, GNode.t, GNode.kids, bulkL, ByteArray.size, sSome]; omega
theorem AltsD.bulk {alts : List GNode} (h : AltsD (patD 3) alts) : bulkL GNode.bulk alts ≤ 1000 := by
 have hb : ∀ a ∈ alts, a.bulk ≤ 100 := fun a ha => by
  obtain ⟨j, hj, rfl⟩ := List.getElem_of_mem ha
  obtain ⟨q, hq, e⟩ := h.2 j hj
  have := patD_bulk 3 q hq
  rw [e]
  unfold altN
  rw [GNode.bulk_eq]
  have h2 : (GNode.mk 1 (j : Int) ⟨#[]⟩ ⟨#[]⟩ []).bulk = 0 := by rw [GNode.bulk_eq]; simp [GNode.s, GNode.t, GNode.kids, bulkL, ByteArray.size]
  simp [GNode.s, GNode.t, GNode.kids, bulkL, ByteArray.size, h2]
  omega
 have hl := h.1
 have : ∀ l : List GNode, (∀ a ∈ l, a.bulk ≤ 100) → bulkL GNode.bulk l ≤ 101 * l.length := fun l => by
  induction l with
  | nil => intro _; simp [bulkL]
  | cons a r ih =>
   intro hh
   have h1 := hh a List.mem_cons_self
   have h2 := ih fun x hx => hh x (List.mem_cons_of_mem _ hx)
   simp only [bulkL, List.length_cons]
   omega
 have := this alts hb
 omega
theorem valI_bulk {v : GValue} (h : valI v) : v.bulk = 0 := by obtain ⟨x, -, rfl⟩ := h; rw [GValue.bulk_eq]; simp [GValue.s, GValue.kids, bulkL, ByteArray.size]
theorem valO_bulk {v : GValue} (h : valO v) : v.bulk ≤ 5 := by
 rcases h with rfl | ⟨a, ha, rfl⟩
 · rw [GValue.bulk_eq]; simp [GValue.s, GValue.kids, bulkL, ByteArray.size, sNone]
 · have := valI_bulk ha; rw [GValue.bulk_eq]; simp [GValue.s, GValue.kids, bulkL, ByteArray.size, sSome]; omega
theorem valL_bulk : ∀ (d : Nat) (v : GValue), valL d v → v.bulk ≤ 3 + 11 * d
 | 0, v, h => by obtain rfl := h; rw [GValue.bulk_eq]; simp [GValue.s, GValue.kids, bulkL, ByteArray.size, sNil]
 | d + 1, v, h => by
  rcases h with rfl | ⟨a, b, ha, hb, rfl⟩
  · rw [GValue.bulk_eq]; simp [GValue.s, GValue.kids, bulkL, ByteArray.size, sNil]
  · have i1 := valO_bulk ha
    have i2 := valL_bulk d b hb
    rw [GValue.bulk_eq]; simp [GValue.s, GValue.kids, bulkL, ByteArray.size, sCons]; omega
theorem consN_bulk9 (ds : List GData) : consN ds ≤ bulkL GData.bulk ds := by
 induction ds with
 | nil => simp [consN]
 | cons d r ih =>
  have h := GData.bulk_eq d
  have h2 := bulkL_len GCon.bulk d.cons
  simp only [consN, bulkL]
  omega
set_option maxHeartbeats 2000000
theorem bigYesC {n : Nat} (A : Option Addr) (c : Nat) (hbi : (1048576 : Int) < (n : Int)) (w : World) : Calls Tryz.prog 4 #[.slice A n c] w fun e w' => e = .returned (.bool true) ∧ w = w' := by
 go_enter Tryz.func4, Tryz.ntmps4
 go_wp2_with fail
 go_ret
 exact ⟨rfl, rfl⟩
theorem bigNoC {n : Nat} (A : Option Addr) (c : Nat) (hbi : ¬ (1048576 : Int) < (n : Int)) (w : World) : Calls Tryz.prog 4 #[.slice A n c] w fun e w' => e = .returned (.bool false) ∧ w = w' := by
 have h : decide ((1048576 : Int) < (n : Int)) = false := decide_eq_false hbi
 go_enter Tryz.func4, Tryz.ntmps4
 go_wp2_with fail
 go_ret
 exact ⟨rfl, rfl⟩
theorem walkCases (l : List Int) (A : Option Addr) (c : Nat) (w : World) (hs : Sl w (Lt w.heap.size) 1 A c (l.map (D.num .u8))) :
 Calls Tryz.prog 3 #[.slice A l.length c] w fun e w' => e = .returned (.bool true) ∧ Below w.heap.size w w' := by
 have S0 := LH hs
 have hln : l.length ≤ 9223372036854775807 := by simpa using hs.len
 clear hs
 by_cases hbig : 1048576 < l.length
 ·
  have hbi : (1048576 : Int) < (l.length : Int) := by omega
  go_enter Tryz.func3, Tryz.ntmps3
  go_wp2_with fail
  refine (bigYesC A c (by omega) w).mono ?_
  rintro e w1 ⟨rfl, rfl⟩
  go_wp2_with fail
  go_ret
  exact ⟨rfl, Below.refl _ _⟩
 have hbi : ¬ (1048576 : Int) < (l.length : Int) := by omega
 have hl : l.length ≤ 1048576 := by omega
 go_enter Tryz.func3, Tryz.ntmps3
 go_wp2_with fail
 refine (bigNoC A c (by omega) w).mono ?_
 rintro e w1 ⟨rfl, rfl⟩
 go_wp2_with fail
 refine (drawAltsValue l A c w S0.out hl).mono ?_
 rintro e w1 ⟨ds, A1, c1, alts, A2, c2, v, A3, c3, rfl, hd, ha, hv, s1, s2, av, hb⟩
 have hbd := hd.bulk
 have hba := ha.bulk
 have hal := ha.1
 have HA := LH ha
 have HV := LH hv
 obtain ⟨w2, e2, R2, hz2, K2⟩ := boxed w1 28 #[.int .i64 v.kind, .int .i64 v.n, .string v.s, .slice A3 v.kids.length c3]
 have E2 := LH (show Below w1.heap.size w1 w2 by rw [e2]; exact (Below.refl _ _).alloc (Nat.le_refl _) _)
 have B2 := LH (hb.trans (E2.out.mono hb.size))
 have D2 := LH (s1.keep (w' := w2) (S' := Lt w2.heap.size) fun b h => ⟨by have := h.2; show b < _; omega, E2.out.block b h.2⟩)
 have L2 := LH (s2.keep (w' := w2) (S' := Lt w2.heap.size) fun b h => ⟨by have := h.2; show b < _; omega, E2.out.block b h.2⟩)
 have V2 := LH (av.keep (w' := w2) (S' := Lt w2.heap.size) fun b h => ⟨by have := h.2; show b < _; omega, E2.out.block b h.2⟩)
 obtain ⟨⟨t, ok⟩, hT⟩ : ∃ T, treesV ds (alts.map patOf) = T := ⟨_, rfl⟩
 have HI := LH (implTreesL ds A1 c1 alts A2 c2 w2 (by omega) D2.out L2.out)
 have HTB := LH (treesV_bulk ds alts (by omega))
 rw [hT] at HI HTB
 have HT := LH hT
 clear hb s1 s2 av hd ha hv hT K2
 obtain ⟨q1, eq1⟩ : ∃ q, q = w1.heap.size := ⟨_, rfl⟩
 rw [← eq1] at R2
 have EQ1 := LH eq1
 clear eq1
 go_wp2_with fail
 rw [← e2, ← EQ1.out]
 clear e2
 refine HI.out.mono ?_
 rintro e w3 ⟨T1, p1, T2, p2, rfl, how, hb3⟩
 dsimp only at how
 obtain ⟨w4, e4, R4, hz4, K4⟩ := boxed w3 34 #[.int .i64 t.op, .int .i64 t.n, .slice T1 t.path.length p1, .string t.s, .slice T2 t.kids.length p2]
 have E4 := LH (show Below w2.heap.size w2 w4 by rw [e4]; exact hb3.alloc hb3.size _)
 have B4 := LH (B2.out.trans (E4.out.mono B2.out.size))
 have D4 := LH (D2.out.below E4.out E4.out.size)
 have L4 := LH (L2.out.below E4.out E4.out.size)
 have V4 := LH (V2.out.below E4.out E4.out.size)
 have RV4 := LH (R2.out.below E4.out R2.out.lt)
 have T4 := LH ((how.at).keep (w' := w4) (S' := Lt w4.heap.size) fun b h => ⟨by have := h.2; show b < _; omega, K4.out.block b h.2 (by have := h.2; omega)⟩)
 have HS := LH (specTreesL ds A1 c1 alts A2 c2 w4 (by omega) D4.out L4.out)
 rw [HT.out] at HS
 obtain ⟨q2, eq2⟩ : ∃ q, q = w3.heap.size := ⟨_, rfl⟩
 rw [← eq2] at R4
 have EQ2 := LH eq2
 clear hb3 how K4 D2 L2 V2 R2 E2 HI eq2
 go_wp2_with fail
 rw [← e4, ← EQ2.out]
 clear e4
 refine HS.out.mono ?_
 rintro e w5 ⟨U1, u1, U2, u2, rfl, -, hb5⟩
 dsimp only
 obtain ⟨w6, e6, R6, hz6, K6⟩ := boxed w5 34 #[.int .i64 t.op, .int .i64 t.n, .slice U1 t.path.length u1, .string t.s, .slice U2 t.kids.length u2]
 have E6 := LH (show Below w4.heap.size w4 w6 by rw [e6]; exact hb5.alloc hb5.size _)
 have B6 := LH (B4.out.trans (E6.out.mono B4.out.size))
 have D6 := LH (D4.out.below E6.out E6.out.size)
 have L6 := LH (L4.out.below E6.out E6.out.size)
 have V6 := LH (V4.out.below E6.out E6.out.size)
 have T6 := LH (T4.out.below E6.out E6.out.size)
 have RV6 := LH (RV4.out.below E6.out RV4.out.lt)
 have RT6 := LH (R4.out.below E6.out R4.out.lt)
 have hct := fun i => RT6.out.cell i
 have hlt6 := RT6.out.lt
 clear hb5 K6 D4 L4 V4 T4 RV4 R4 E4 HS R6
 go_upto_region 6 with (fail)
 rw [← e6]
 clear e6
 cases ok
 ·
  have hop : t.op = 0 := by
   have h := trees_op (ds := ds) (l := alts.map patOf) (by rw [HT.out])
   rw [HT.out] at h
   have : t = zeroT := (Prod.mk.inj h).1
   rw [this]; rfl
  go_wp2_with fail
  go_ret
  exact ⟨rfl, B6.out⟩
 have hw0 : IntKind.i64.wrap ((alts.length : Int) - 1) = (alts.length : Int) - 1 := (IntWalk.i64_left _).trans (IntWalk.wrap64_in ((alts.length : Int) - 1) (by omega))
 have HLAW := LH (cases_law HA.out HV.out (by rw [HT.out]))
 rw [HT.out] at HLAW
 go_wp2_with fail
 go_loopw [10, 11] (fun f i wr => ∃ j : Nat, i = .int .i64 ((j : Int) - 1) ∧ j ≤ alts.length ∧ f = .int .i64 (fromF v alts j) ∧ Hid (Below w6.heap.size w6 wr)) (fun _ i _ => (intOf i + 1).toNat)
 case atStart => exact ⟨alts.length, rfl, Nat.le_refl _, by rw [fromF_end], LH (Below.refl _ _)⟩
 case round =>
  clear hct
  obtain ⟨j, rfl, hj, rfl, HB⟩ := hrel
  have hzr := HB.out.size
  cases j with
  | zero =>
   have dl : decide (0 ≤ ((0 : Nat) : Int) - 1) = false := by decide
   have D7 := LH (D6.out.below HB.out HB.out.size)
   have V7 := LH (V6.out.below HB.out HB.out.size)
   have T7 := LH (T6.out.below HB.out HB.out.size)
   have RV7 := LH (RV6.out.below HB.out RV6.out.lt)
   have RT7 := LH (RT6.out.below HB.out RT6.out.lt)
   have hct := fun i => RT7.out.cell i
   have hcv := fun i => RV7.out.cell i
   have B7 := LH (B6.out.trans (HB.out.mono B6.out.size))
   have hvb := valL_bulk 3 v HV.out
   have HR := LH (implRunTree t T1 p1 T2 p2 v A3 c3 wr (by omega) T7.out V7.out)
   obtain ⟨f0, hf0⟩ : ∃ x, fromF v alts 0 = x := ⟨_, rfl⟩
   have HF0 := LH (show runF v (t.bulk + 1) t = f0 by rw [HLAW.out.1, ← fromF_zero, hf0])
   rw [HF0.out] at HR
   rw [hf0]
   clear hf0 hvb
   go_wp2_with fail
   refine HR.out.mono ?_
   rintro e w8 ⟨rfl, hb8⟩
   have B8 := LH (B7.out.trans (hb8.mono B7.out.size))
   have RT8 := LH (RT7.out.below hb8 RT7.out.lt)
   have T8 := LH (T7.out.below hb8 hb8.size)
   have D8 := LH (D7.out.below hb8 hb8.size)
   have hct2 := fun i => RT8.out.cell i
   have hnb := GTree.nodes_bulk t
   have HTO := LH (implTreeOk ds A1 c1 t T1 p1 T2 p2 w8 (by have := HTB.out; omega) (by have := consN_bulk9 ds; omega) D8.out T8.out)
   rw [HLAW.out.2] at HTO
   clear hb8 hct hcv HR hnb
   go_wp2_with fail
   refine HTO.out.mono ?_
   rintro e w9 ⟨rfl, hb9⟩
   have B9 := LH (B8.out.trans (hb9.mono B8.out.size))
   clear hb9
   go_wp2_with fail
   go_ret
   exact ⟨rfl, B9.out⟩
  | succ q =>
   have hq : q < alts.length := by omega
   have hqi : (((q + 1 : Nat) : Int) - 1) = (q : Int) := by omega
   rw [hqi]
   have dl : decide (0 ≤ (q : Int)) = true := decide_eq_true (by omega)
   have hqs : ((q : Nat) : Int) < (alts.length : Int) := by omega
   have hwq : IntKind.i64.wrap ((q : Int) - 1) = (q : Int) - 1 := (IntWalk.i64_left _).trans (IntWalk.wrap64_in ((q : Int) - 1) (by omega))
   obtain ⟨p, hp, hpe⟩ := HA.out.2 q hq
   obtain ⟨b, off, KA, kc, hA2, hSb, g0, g1, g2, g3, g4, hat⟩ := GNode.elem (L6.out.below HB.out HB.out.size) q hq
   subst hA2
   rw [hpe] at g4 hat
   have hkl : (altN p q).kids.length = 2 := rfl
   obtain ⟨b2, off2, KB, kc2, hKA, hSb2, y0, y1, y2, y3, y4, hat2⟩ := GNode.elem (l := (altN p q).kids) hat.2.2.2.2 0 (by rw [hkl]; omega)
   subst hKA
   have hk0 : (altN p q).kids[0] = p := rfl
   rw [hk0] at y0 y1 y2 y3 y4 hat2
   have hSb' : b < wr.heap.size := hSb
   have hSb2' : b2 < wr.heap.size := hSb2
   have P7 := LH hat2
   have V7 := LH (V6.out.below HB.out HB.out.size)
   have RV7 := LH (RV6.out.below HB.out RV6.out.lt)
   have HF := LH (fun (x : Up wr) => implFits (p.bulk + 1) p v KB kc2 A3 c3 x.v (Nat.lt_succ_self _) (P7.out.below x.h x.h.size) (V7.out.below x.h x.h.size))
   have z4 := fun x : Up wr => upCell (p := ⟨b, off + q * 5 + 4, none⟩) hSb' g4 x
   have x0 := fun x : Up wr => upCell (p := ⟨b2, off2 + 0 * 5, none⟩) hSb2' y0 x
   have x1 := fun x : Up wr => upCell (p := ⟨b2, off2 + 0 * 5 + 1, none⟩) hSb2' y1 x
   have x2 := fun x : Up wr => upCell (p := ⟨b2, off2 + 0 * 5 + 2, none⟩) hSb2' y2 x
   have x3 := fun x : Up wr => upCell (p := ⟨b2, off2 + 0 * 5 + 3, none⟩) hSb2' y3 x
   have x4 := fun x : Up wr => upCell (p := ⟨b2, off2 + 0 * 5 + 4, none⟩) hSb2' y4 x
   have zv := upRow RV7.out
   have HFS := LH (fromF_step v alts q hq)
   rw [hpe, show patOf (altN p q) = p from rfl] at HFS
   rw [hkl] at z4
   simp only [Nat.zero_mul, Nat.add_zero] at x0 x1 x2 x3 x4
   clear g0 g1 g2 g3 g4 y0 y1 y2 y3 y4 hat hat2 hqi hkl hk0 hp
   cases hfb : fitsB p v
   ·
    have HFZ := LH (show fromF v alts q = fromF v alts (q + 1) by rw [HFS.out, hfb]; rfl)
    rw [hfb] at HF
    clear hfb
    go_wp2_with fail
    refine wp_region_up wr (Below.refl _ _) (by kernel_rfl) (by kernel_rfl) ?_
    repeat (go_big_quiet_step (first
      | (go_at_call 8; exact upCall (HF.out _))))
    refine wpQuiet_nil ?_
    rintro w8 ⟨x8, e8⟩
    have HB8 := LH (HB.out.trans ((show Below wr.heap.size wr w8 by rw [e8]; exact x8.h).mono hzr))
    clear e8 x8 z4 x0 x1 x2 x3 x4 zv
    go_wp2_with fail
    go_roundw
    case rel => exact ⟨q, rfl, by omega, by rw [HFZ.out], HB8⟩
    case measure => simp [intOf]
   ·
    have HFZ := LH (show fromF v alts q = (q : Int) by rw [HFS.out, hfb]; rfl)
    rw [hfb] at HF
    clear hfb
    go_wp2_with fail
    refine wp_region_up wr (Below.refl _ _) (by kernel_rfl) (by kernel_rfl) ?_
    repeat (go_big_quiet_step (first
      | (go_at_call 8; exact upCall (HF.out _))))
    refine wpQuiet_nil ?_
    rintro w8 ⟨x8, e8⟩
    have HB8 := LH (HB.out.trans ((show Below wr.heap.size wr w8 by rw [e8]; exact x8.h).mono hzr))
    clear e8 x8 z4 x0 x1 x2 x3 x4 zv
    go_wp2_with fail
    go_roundw
    case rel => exact ⟨q, rfl, by omega, by rw [HFZ.out], HB8⟩
    case measure => simp [intOf]
end Go.Proofs.YtjjikciggbnjmaaGreat
namespace Go.Proofs.YtjjikciggbnjmaaGreat
set_option maxRecDepth 20000
set_option linter.unusedVariables false
set_option linter.unusedSimpArgs false
open Go.ChangeShapes Go.WideShapes Go.ChangeAt Go.RowKit
def kindsOf (P : Program) (fn : Func) (c : OpenClaim) : List (Option IntKind) := if c.domain.isEmpty then [] else fn.params.toList.map fun t => match P.underlying t with | some (.int k) => some k | _ => none
theorem joinedAnd {a b : Bool} (h : a = true) (h2 : b = true) : (a && b) = true := by rw [h, h2]; rfl
set_option maxRecDepth 10000 in
theorem joinedOf {P : Program} {f : FuncId} {fn : Func} {s : ChangeSpec} {c : OpenClaim} (h0 : (c.wf (OpenSpec.ofChange s)) = true) (h1 : (laidOutB P) = true) (h2 : (mapsRowed P) = true) (h3 : (fn.params.all (P.readableRec ·)) = true) (h4 : (namedTie P c.named s.vars) = true) (h5 : (c.stops == []) = true) (h6 : (P.stops == []) = true) (h7 : (c.knobs == []) = true) (h8 : (P.stopKnobs == []) = true) (h9 : (c.inPlace == P.inPlace f) = true) (h10 : (c.unfollowed == P.unfollowed f) = true) (h11 : (c.recurses == P.recurses f) = true) (h12 : (c.named == P.varsNamed f) = true) (h13 : (c.maps == (fn.params.toList ++ s.plain.varTypes P).any (P.mapsRec ·)) = true) (h14 : (c.ifaces == (fn.params.toList ++ s.plain.varTypes P).any (P.ifacesRec ·)) = true) (h15 : (c.mapsOut == P.mapsAmong fn.resultTypes.toList) = true) (h16 : (c.loops == (fn.params.toList ++ s.plain.varTypes P).any (P.loopsFrom ·)) = true) (h17 : (c.wideKeys == (fn.params.toList ++ s.plain.varTypes P ++ fn.resultTypes.toList).any (P.wideKeysFrom ·)) = true) (h18 : (s.vars.all (P.varReadable ·)) = true) (h19 : (fn.resultTypes.all (fun t => P.readableRec t && decide (t < P.types.size))) = true) (h20 : (c.ifacesOut == fn.resultTypes.toList.any (P.ifacesRec ·)) = true) (h21 : (c.loopsOut == fn.resultTypes.toList.any (P.loopsFrom ·)) = true) (h22 : (c.plainKeys == P.plainKeys) = true) (h23 : (c.shortTexts.isNone) = true) (h24 : (P.stopsHeard) = true) (h25 : (P.mayEnter) = true) (h26 : (c.lifted == P.liftsFinal) = true) (h27 : (P.make == some c.make) = true) (h28 : (c.kinds == kindsOf P fn c) = true) (h29 : (c.pinned == c.pinnedBy) = true) (h30 : (c.veiled == (fn.params.toList ++ s.plain.varTypes P ++ fn.resultTypes.toList).any (P.veiledRec ·)) = true) (h31 : (c.veiledFits P fn.params.toList (fn.params.toList ++ s.plain.varTypes P ++ fn.resultTypes.toList)) = true) : joinedFacts P f fn s c = true := by
 unfold joinedFacts
 exact (joinedAnd (joinedAnd (joinedAnd (joinedAnd (joinedAnd (joinedAnd (joinedAnd (joinedAnd (joinedAnd (joinedAnd (joinedAnd (joinedAnd (joinedAnd (joinedAnd (joinedAnd (joinedAnd (joinedAnd (joinedAnd (joinedAnd (joinedAnd (joinedAnd (joinedAnd (joinedAnd (joinedAnd (joinedAnd (joinedAnd (joinedAnd (joinedAnd (joinedAnd (joinedAnd (joinedAnd h0 h1) h2) h3) h4) h5) h6) h7) h8) h9) h10) h11) h12) h13) h14) h15) h16) h17) h18) h19) h20) h21) h22) h23) h24) h25) h26) h27) h28) h29) h30) h31)
end Go.Proofs.YtjjikciggbnjmaaGreat
