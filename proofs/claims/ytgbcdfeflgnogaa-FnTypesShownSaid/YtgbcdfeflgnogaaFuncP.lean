/- Plain facts on the first of a list that a predicate takes (no program in sight). Conditions: none. -/
import Derived.WalkKit
namespace Go.Proofs.Ytgbcdfeflgnogaa

/-- the place of the first that p takes; -1: there is none -/
def idxI {α : Type} (p : α → Bool) : List α → Int
  | [] => -1
  | x :: r => if p x then 0 else if idxI p r < 0 then -1 else idxI p r + 1

/-- none of the first j is taken -/
def noneTo {α : Type} (p : α → Bool) (l : List α) (j : Nat) : Prop := ∀ i (h : i < l.length), i < j → p l[i] = false

theorem noneTo_zero {α : Type} (p : α → Bool) (l : List α) : noneTo p l 0 := fun i _ h => by omega

theorem noneTo_succ {α : Type} {p : α → Bool} {l : List α} {j : Nat} (h : noneTo p l j) (hj : j < l.length) (he : p l[j] = false) : noneTo p l (j + 1) := fun i hi hij => by
  rcases Nat.lt_or_ge i j with h1 | h1
  · exact h i hi h1
  · obtain rfl : i = j := by omega
    exact he

theorem noneTo_tail {α : Type} {p : α → Bool} {x : α} {r : List α} {j : Nat} (h : noneTo p (x :: r) (j + 1)) : noneTo p r j := fun i hi hij => by
  have := h (i + 1) (by simpa using hi) (by omega)
  simpa using this

theorem idxI_none {α : Type} {p : α → Bool} : ∀ {l : List α}, noneTo p l l.length → idxI p l = -1
  | [], _ => rfl
  | x :: r, h => by
    have h0 := h 0 (by simp) (by simp)
    simp only [List.getElem_cons_zero] at h0
    have h1 := idxI_none (p := p) (l := r) (noneTo_tail (j := r.length) (by simpa using h))
    simp [idxI, h0, h1]

theorem idxI_at {α : Type} {p : α → Bool} : ∀ {l : List α} {j : Nat}, noneTo p l j → (hj : j < l.length) → p l[j] = true → idxI p l = j
  | [], _, _, hj, _ => by simp at hj
  | x :: r, 0, _, _, he => by simp only [List.getElem_cons_zero] at he; simp [idxI, he]
  | x :: r, j + 1, h, hj, he => by
    have h0 := h 0 (by simp) (by omega)
    simp only [List.getElem_cons_zero] at h0
    have h1 := idxI_at (p := p) (l := r) (j := j) (noneTo_tail h) (by simpa using hj) (by simpa using he)
    simp only [idxI, h0, h1]
    have : ¬ ((j : Int) < 0) := by omega
    simp [this]

theorem idxI_any_false {α : Type} {p : α → Bool} : ∀ {l : List α}, l.any p = false → idxI p l = -1
  | [], _ => rfl
  | x :: r, h => by
    simp only [List.any_cons, Bool.or_eq_false_iff] at h
    simp [idxI, h.1, idxI_any_false h.2]

theorem idxI_any_true {α : Type} {p : α → Bool} : ∀ {l : List α}, l.any p = true → 0 ≤ idxI p l
  | [], h => by simp at h
  | x :: r, h => by
    simp only [List.any_cons, Bool.or_eq_true] at h
    unfold idxI
    split
    · omega
    · rename_i hx
      rcases h with h | h
      · exact absurd h hx
      · have := idxI_any_true h
        split <;> omega

/-- where there is one: its place, and it is taken -/
theorem idxI_spec {α : Type} {p : α → Bool} : ∀ {l : List α}, 0 ≤ idxI p l → ∃ j, ∃ h : j < l.length, idxI p l = j ∧ p l[j] = true ∧ noneTo p l j
  | [], h => by simp [idxI] at h
  | x :: r, h => by
    unfold idxI at h ⊢
    by_cases hx : p x = true
    · rw [if_pos hx] at h ⊢
      exact ⟨0, by simp, rfl, by simpa using hx, fun i _ h => by omega⟩
    · rw [if_neg hx] at h ⊢
      by_cases hr : idxI p r < 0
      · rw [if_pos hr] at h; omega
      · rw [if_neg hr] at h ⊢
        obtain ⟨j, hj, e, hp, hn⟩ := idxI_spec (p := p) (l := r) (by omega)
        refine ⟨j + 1, by simpa using hj, by rw [e]; simp, by simpa using hp, fun i hi hij => ?_⟩
        match i with
        | 0 => simpa using hx
        | i + 1 => have := hn i (by simpa using hi) (by omega); simpa using this

theorem idxI_lt {α : Type} {p : α → Bool} {l : List α} : idxI p l < l.length ∨ idxI p l = -1 := by
  by_cases h : 0 ≤ idxI p l
  · obtain ⟨j, hj, e, _⟩ := idxI_spec h; rw [e]; left; omega
  · right
    have : ∀ l : List α, -1 ≤ idxI p l := by
      intro l
      induction l with
      | nil => simp [idxI]
      | cons x r ih => unfold idxI; split; omega; split <;> omega
    have := this l; omega
end Go.Proofs.Ytgbcdfeflgnogaa
