/- Is a var in a type: the reference's walk, and that it is so where the list of vars has it. Conditions: none. -/
import Derived.Test.YtgbcdfeflgnogaaVars
namespace Go.Proofs.Ytgbcdfeflgnogaa
open Go.RowKit
set_option linter.unusedVariables false
set_option linter.unusedSimpArgs false
set_option maxHeartbeats 1000000

theorem noneTo_any {α : Type} {p : α → Bool} {l : List α} (h : noneTo p l l.length) : l.any p = false := by
  rw [List.any_eq_false]
  intro x hx
  obtain ⟨i, hi, rfl⟩ := List.getElem_of_mem hx
  rw [h i hi hi]; simp
mutual
def GTy.has (n : Int) : GTy → Bool | .mk op m s kids => (op == 2 && m == n) || GTy.hasL n kids
def GTy.hasL (n : Int) : List GTy → Bool | [] => false | t :: r => t.has n || GTy.hasL n r
end
theorem GTy.has_eq (n : Int) (t : GTy) : t.has n = ((t.op == 2 && t.n == n) || GTy.hasL n t.kids) := by cases t; rw [GTy.has]; rfl
theorem GTy.hasL_any (n : Int) : ∀ l : List GTy, GTy.hasL n l = l.any (fun t => t.has n)
  | [] => by rw [GTy.hasL]; rfl
  | t :: r => by rw [GTy.hasL, GTy.hasL_any n r]; rfl
mutual
theorem GTy.mem_vs (n : Int) : ∀ (t : GTy) (xs : List Int), n ∈ t.vs xs ↔ n ∈ xs ∨ t.has n = true
  | .mk op m s kids, xs => by
    rw [GTy.vs, GTy.mem_vsL n kids, GTy.has]
    by_cases h : op = 2
    · rw [if_pos h, ins_mem, or_assoc]; simp only [h, beq_self_eq_true, Bool.true_and, Bool.or_eq_true, beq_iff_eq]; exact or_congr Iff.rfl (or_congr ⟨Eq.symm, Eq.symm⟩ Iff.rfl)
    · rw [if_neg h]; simp [h]
theorem GTy.mem_vsL (n : Int) : ∀ (l : List GTy) (xs : List Int), n ∈ GTy.vsL l xs ↔ n ∈ xs ∨ GTy.hasL n l = true
  | [], xs => by rw [GTy.vsL, GTy.hasL]; simp
  | t :: r, xs => by rw [GTy.vsL, GTy.mem_vsL n r, GTy.mem_vs n t, GTy.hasL]; simp [or_assoc]
end
theorem GTy.has_vs (n : Int) (t : GTy) : t.has n = true ↔ n ∈ t.vs [] := by rw [GTy.mem_vs]; simp

set_option maxRecDepth 20000 in
theorem specHas (n : Int) (k : Nat) : ∀ (t : GTy) (A1 : Option Addr) (c1 : Nat) (w : World), t.bulk < k → GTy.At w (Lt w.heap.size) A1 c1 t →
    Calls Try.prog 134 #[.agg #[.int .i64 t.op, .int .i64 t.n, .string t.s, .slice A1 t.kids.length c1], .int .i64 n] w fun e w' => e = .returned (.bool (t.has n)) ∧ Below w.heap.size w w' := by
  induction k with
  | zero => intros; omega
  | succ k ih =>
    intro t A1 c1 w hk hat
    have hlen : t.kids.length ≤ 9223372036854775807 := by simpa using hat.2.2.2.len
    have hbe := t.bulk_eq
    have HH := Lib.hid (fun (j : Nat) (h : j < t.kids.length) (A1 : Option Addr) (c1 : Nat) => ih t.kids[j] A1 c1)
    have HKB := Lib.hid (fun (j : Nat) (h : j < t.kids.length) => show t.kids[j].bulk < k from by have := (bulkV_next GTy.bulk h).2; have := (bulkV_next GTy.bulk h).1; omega)
    have T0 := Lib.hid hat
    obtain ⟨w0, e0⟩ : ∃ w0, w0 = w.alloc (.cells #[.int .i64 t.op, .int .i64 t.n, .string t.s, .slice A1 t.kids.length c1] 59) := ⟨_, rfl⟩
    have E0 := Lib.hid (show Below w.heap.size w w0 by rw [e0]; exact (Below.refl _ _).alloc (Nat.le_refl _) _)
    have Ra0 := Lib.hid (show Row w0 w.heap.size 59 #[.int .i64 t.op, .int .i64 t.n, .string t.s, .slice A1 t.kids.length c1] by rw [e0]; exact Row.new' _ _ _ rfl)
    have S0 : w0.heap.size = w.heap.size + 1 := by rw [e0]; simp
    have hca0 := fun i => Ra0.out.cell i
    have HE := Lib.hid (t.has_eq n)
    have HA := Lib.hid (GTy.hasL_any n t.kids)
    clear ih hbe hk hat
    cases o2 : (t.op == 2)
    case' false =>
      have HV := Lib.hid (show t.has n = t.kids.any (fun t => t.has n) by rw [HE.out, o2, HA.out]; rfl)
    case' true =>
      cases on : (t.n == n)
      case true =>
        have HV := Lib.hid (show t.has n = true by rw [HE.out, o2, on]; rfl)
        go_enter Try.func134, Try.ntmps134
        go_wp2_with fail
        go_ret
        exact ⟨ret_bool HV.out.symm, by rw [← e0]; exact E0.out⟩
      have HV := Lib.hid (show t.has n = t.kids.any (fun t => t.has n) by rw [HE.out, o2, on, HA.out]; rfl)
    all_goals
      go_enter Try.func134, Try.ntmps134
      go_wp2_with fail
      rw [← e0]
      clear e0 hca0
      go_loopw [5] (fun i wr => ∃ (j : Nat), j ≤ t.kids.length ∧ i = .int .i64 j ∧ Hid (noneTo (fun t => t.has n) t.kids j) ∧ Hid (Row wr w.heap.size 59 #[.int .i64 t.op, .int .i64 t.n, .string t.s, .slice A1 t.kids.length c1]) ∧ Hid (Below w.heap.size w wr)) (fun i _ => t.kids.length - (intOf i).toNat)
      case atStart => exact ⟨0, by omega, by go_num, Lib.hid (noneTo_zero _ _), Ra0, E0⟩
      case round =>
        obtain ⟨j, hj, rfl, HN, HRa, HB⟩ := hrel
        have hca := fun i => HRa.out.cell i
        have hsz := HB.out.size
        by_cases hlt : j < t.kids.length
        · obtain ⟨b, off, A2, c2, eA, hSb, g0, g1, g2, g3, hatk⟩ := GTy.elem (T0.out.below HB.out (Nat.le_refl _)).2.2.2 j hlt
          have HAk := Lib.hid (hatk.below (Below.refl _ _) hsz)
          have hkb := HKB.out j hlt
          subst eA
          clear hatk
          go_wp2_with fail
          refine (HH.out j hlt A2 c2 _ hkb HAk.out).mono ?_
          rintro e w1 ⟨rfl, hb1⟩
          have R1 := Lib.hid (HRa.out.below hb1 HRa.out.lt)
          have B1 := Lib.hid (HB.out.trans (hb1.mono hsz))
          clear hb1 hkb
          cases he : (t.kids[j]).has n
          · have HN2 := Lib.hid (noneTo_succ HN.out hlt he)
            go_wp2_with fail
            go_roundw
            case rel => exact ⟨j + 1, by omega, by go_num, HN2, R1, B1⟩
            case measure => simp [intOf]; omega
          · have HW := Lib.hid (show t.has n = true by rw [HV.out]; exact List.any_eq_true.2 ⟨_, List.getElem_mem hlt, he⟩)
            go_wp2_with fail
            go_ret
            exact ⟨ret_bool HW.out.symm, B1.out⟩
        · have HW := Lib.hid (show t.has n = false from by rw [HV.out]; exact noneTo_any (by have := HN.out; rwa [show j = t.kids.length by omega] at this))
          go_wp2_with fail
          go_ret
          exact ⟨ret_bool HW.out.symm, HB.out⟩
end Go.Proofs.Ytgbcdfeflgnogaa
