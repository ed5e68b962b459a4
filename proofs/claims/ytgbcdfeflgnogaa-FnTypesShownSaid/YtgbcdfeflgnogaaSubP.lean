/- Types with others in place of vars (no program in sight). Conditions: none. -/
import Derived.Test.YtgbcdfeflgnogaaGBind
import Derived.Test.YtgbcdfeflgnogaaFuncP
namespace Go.Proofs.Ytgbcdfeflgnogaa
open Go.RowKit
set_option linter.unusedVariables false
set_option linter.unusedSimpArgs false

mutual
/-- a type, where f says what stands for a bare var -/
def GTy.sub (f : Int → Option GTy) : GTy → GTy | .mk op n s kids => match (if op = 2 ∧ kids.length = 0 then f n else none) with | some t => t | none => .mk op n s (GTy.subL f kids)
def GTy.subL (f : Int → Option GTy) : List GTy → List GTy | [] => [] | t :: r => t.sub f :: GTy.subL f r
end
theorem GTy.subL_map (f : Int → Option GTy) : ∀ l : List GTy, GTy.subL f l = l.map (GTy.sub f)
  | [] => by simp only [GTy.subL, List.map_nil]
  | t :: r => by simp only [GTy.subL, List.map_cons, GTy.subL_map f r]
theorem GTy.sub_some {f : Int → Option GTy} {t u : GTy} (h1 : t.op = 2) (h2 : t.kids.length = 0) (h : f t.n = some u) : t.sub f = u := by
  cases t with
  | mk op n s kids => simp only [GTy.op, GTy.kids, GTy.n] at h1 h2 h; simp only [GTy.sub]; rw [if_pos ⟨h1, h2⟩, h]
theorem GTy.sub_none {f : Int → Option GTy} {t : GTy} (h : ¬ (t.op = 2 ∧ t.kids.length = 0) ∨ f t.n = none) : t.sub f = .mk t.op t.n t.s (t.kids.map (GTy.sub f)) := by
  cases t with
  | mk op n s kids =>
    simp only [GTy.op, GTy.kids, GTy.n, GTy.s] at h ⊢
    simp only [GTy.sub, GTy.subL_map]
    rcases h with h | h
    · rw [if_neg h]
    · rw [h]; split <;> simp_all
theorem GTy.mk_s (op n : Int) (s : ByteArray) (kids : List GTy) : (GTy.mk op n s kids).s = s := rfl
theorem GTy.mk_kids (op n : Int) (s : ByteArray) (kids : List GTy) : (GTy.mk op n s kids).kids = kids := rfl
theorem GTy.sub_bulk (f : Int → Option GTy) (M : Nat) (H : ∀ n u, f n = some u → u.bulk ≤ M) : ∀ k : Nat, ∀ t : GTy, t.bulk < k → (t.sub f).bulk + 1 ≤ (t.bulk + 1) * (M + 1) := by
  intro k
  induction k with
  | zero => intro t h; omega
  | succ k ih =>
    intro t hk
    have hbe := t.bulk_eq
    by_cases hv : t.op = 2 ∧ t.kids.length = 0
    · cases hf : f t.n with
      | some u =>
        rw [GTy.sub_some hv.1 hv.2 hf]
        have := H _ _ hf
        have : 1 * (M + 1) ≤ (t.bulk + 1) * (M + 1) := Nat.mul_le_mul_right _ (by omega)
        omega
      | none =>
        have hk0 : t.kids = [] := List.eq_nil_of_length_eq_zero hv.2
        have e := GTy.bulk_eq (.mk t.op t.n t.s (t.kids.map (GTy.sub f)))
        rw [GTy.sub_none (.inr hf), e, GTy.mk_s, GTy.mk_kids, hk0, List.map_nil]
        rw [hk0] at hbe
        simp only [bulkL] at hbe ⊢
        have : (t.bulk + 1) * 1 ≤ (t.bulk + 1) * (M + 1) := Nat.mul_le_mul_left _ (by omega)
        omega
    · rw [GTy.sub_none (.inl hv), GTy.bulk_eq, GTy.mk_s, GTy.mk_kids]
      have hL : ∀ l : List GTy, (∀ x, x ∈ l → x.bulk < k) → bulkL GTy.bulk (l.map (GTy.sub f)) ≤ bulkL GTy.bulk l * (M + 1) := by
        intro l hl
        induction l with
        | nil => simp [bulkL]
        | cons x r ih2 =>
          simp only [List.map_cons, bulkL]
          have a := ih x (hl x (by simp))
          have b := ih2 (fun y hy => hl y (by simp [hy]))
          have : (1 + x.bulk + bulkL GTy.bulk r) * (M + 1) = (x.bulk + 1) * (M + 1) + bulkL GTy.bulk r * (M + 1) := by rw [← Nat.add_mul]; congr 1; omega
          omega
      have := hL t.kids (fun x hx => by have := bulkL_mem GTy.bulk t.kids x hx; omega)
      have e : (t.bulk + 1) * (M + 1) = (t.s.size + 1) * (M + 1) + bulkL GTy.bulk t.kids * (M + 1) := by rw [← Nat.add_mul]; congr 1; omega
      have : (t.s.size + 1) * 1 ≤ (t.s.size + 1) * (M + 1) := Nat.mul_le_mul_left _ (by omega)
      omega

/-- what a substitution has for a var -/
def bindOf (l : List GBind) (n : Int) : Option GTy := match l.find? (fun b => b.n == n) with | some b => some b.ty | none => none
theorem idxI_find {l : List GBind} {n : Int} : (∃ j, ∃ h : j < l.length, idxI (fun b : GBind => b.n == n) l = (j : Int) ∧ bindOf l n = some l[j].ty) ∨ (idxI (fun b : GBind => b.n == n) l = -1 ∧ bindOf l n = none) := by
  induction l with
  | nil => exact .inr ⟨rfl, rfl⟩
  | cons x r ih =>
    by_cases hx : (x.n == n) = true
    · refine .inl ⟨0, by simp, by simp [idxI, hx], by simp [bindOf, hx]⟩
    · have hx' : (x.n == n) = false := by simpa using hx
      rcases ih with ⟨j, h, e1, e2⟩ | ⟨e1, e2⟩
      · refine .inl ⟨j + 1, by simpa using h, ?_, ?_⟩
        · simp only [idxI, hx']; rw [e1]; simp; omega
        · simp only [bindOf, List.find?_cons, hx'] at e2 ⊢; simpa using e2
      · refine .inr ⟨?_, ?_⟩
        · simp only [idxI, hx']; rw [e1]; simp
        · simp only [bindOf, List.find?_cons, hx'] at e2 ⊢; simpa using e2
theorem bindOf_bulk {l : List GBind} {n : Int} {u : GTy} (h : bindOf l n = some u) : u.bulk ≤ bulkL GBind.bulk l := by
  unfold bindOf at h
  split at h
  · rename_i b hb
    cases h
    have := bulkL_mem GBind.bulk l b (List.mem_of_find?_eq_some hb)
    have := b.bulk_eq
    omega
  · cases h
end Go.Proofs.Ytgbcdfeflgnogaa
