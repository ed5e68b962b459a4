/- One element of what is owned, written anew: the rest stays (no program in sight). Conditions: none. -/
import Derived.Test.YtgbcdfeflgnogaaMem
namespace Go.Proofs.Ytgbcdfeflgnogaa
open Go.RowKit
set_option linter.unusedVariables false
set_option linter.unusedSimpArgs false

/-- a world behind writes to the blocks of S, and new blocks -/
structure Touch (S : Nat → Prop) (w w' : World) : Prop where
  os : w'.os = w.os
  tape : w'.tape = w.tape
  output : w'.output = w.output
  size : w.heap.size ≤ w'.heap.size
  block : ∀ b, b < w.heap.size → ¬ S b → w'.heap[b]? = w.heap[b]?
  frozen : ∀ b, S b → ∀ o, w.frozen? ⟨b, o, none⟩ = false → w'.frozen? ⟨b, o, none⟩ = false

theorem Touch.refl (S : Nat → Prop) (w : World) : Touch S w w := ⟨rfl, rfl, rfl, Nat.le_refl _, fun _ _ _ => rfl, fun _ _ _ h => h⟩
theorem Touch.trans {S : Nat → Prop} {a b c : World} (h : Touch S a b) (h' : Touch S b c) : Touch S a c :=
  ⟨h'.os.trans h.os, h'.tape.trans h.tape, h'.output.trans h.output, Nat.le_trans h.size h'.size, fun x hx hS => (h'.block x (Nat.lt_of_lt_of_le hx h.size) hS).trans (h.block x hx hS), fun x hS o e => h'.frozen x hS o (h.frozen x hS o e)⟩
theorem Touch.mono {S T : Nat → Prop} {w w' : World} (h : Touch S w w') (hST : ∀ b, S b → T b) (hT : ∀ b, T b → b < w.heap.size) : Touch T w w' :=
  ⟨h.os, h.tape, h.output, h.size, fun x hx hS => h.block x hx (fun e => hS (hST x e)), fun x hx o e => by
    by_cases hS : S x
    · exact h.frozen x hS o e
    · rw [World.frozen?_of_block (h.block x (hT x hx) hS)]; exact e⟩
theorem Touch.below {S : Nat → Prop} {B : Nat} {w w' : World} (h : Touch S w w') (hS : ∀ b, S b → B ≤ b) (hB : B ≤ w.heap.size) : Below B w w' :=
  ⟨h.os, h.tape, h.output, h.size, fun b hb => h.block b (by omega) (fun e => by have := hS b e; omega)⟩
theorem Below.touch {S : Nat → Prop} {w w' : World} (h : Below w.heap.size w w') (hS : ∀ b, S b → b < w.heap.size) : Touch S w w' :=
  ⟨h.os, h.tape, h.output, h.size, fun b hb _ => h.block b hb, fun b hb o e => (World.frozen?_of_block (h.block b (hS b hb))).trans e⟩
theorem Touch.setCell {S : Nat → Prop} {w : World} {b o : Nat} (hb : S b) (v : Value) : Touch S w (w.setCell ⟨b, o, none⟩ v) :=
  ⟨rfl, rfl, rfl, by simp [World.setCell], fun x _ hS => Below.heap_setCell w ⟨b, o, none⟩ v x (fun e => hS (by subst e; exact hb)), fun x hx o' e => by
    rw [World.frozen?_setCell]; exact e⟩

theorem setCells_size' {w w' : World} {g k : Nat} {vs : List Value} (e : w' = setCells w g k vs) : w'.heap.size = w.heap.size := by rw [e, setCells_size]
theorem setCells_block' {w w' : World} {g k : Nat} {vs : List Value} (e : w' = setCells w g k vs) (b : Nat) (hb : b ≠ g) : w'.heap[b]? = w.heap[b]? := by rw [e]; exact setCells_block _ _ _ _ _ hb
/-- an element of an owned row, and what may be put in its place -/
theorem D.ownR_focus {w : World} {size b : Nat} : ∀ (xs : List D) (S : Nat → Prop) (off i : Nat) (h : i < xs.length), D.ownR w size b xs S off →
    ∃ (T : Nat → Prop) (cs : List Value), (∀ x, T x → S x) ∧ cs.length = size ∧ (∀ j v, cs[j]? = some v → w.cell? ⟨b, off + i * size + j, none⟩ = some v) ∧ (xs[i]).own w T cs ∧
      ∀ (w' : World) (d' : D) (cs' : List Value), (∀ x, S x → ¬ T x → w'.heap[x]? = w.heap[x]?) → (∀ j, (j < off + i * size ∨ off + i * size + size ≤ j) → w'.cell? ⟨b, j, none⟩ = w.cell? ⟨b, j, none⟩) →
        cs'.length = size → (∀ j v, cs'[j]? = some v → w'.cell? ⟨b, off + i * size + j, none⟩ = some v) → d'.own w' T cs' → D.ownR w' size b (xs.set i d') S off
  | [], _, _, i, h, _ => by simp at h
  | d :: r, S, off, 0, h, hr => by
    simp only [D.ownR] at hr
    obtain ⟨S1, S2, cs, g1, g2, hl, hc, hd, hrest⟩ := hr
    refine ⟨S1, cs, fun x hx => (g1 x hx).1, hl, by simpa using hc, by simpa using hd, fun w' d' cs' k1 k2 k3 k4 k5 => ?_⟩
    simp only [List.set_cons_zero, D.ownR]
    refine ⟨S1, S2, cs', g1, g2, k3, by simpa using k4, k5, ?_⟩
    refine ownR_keep' size b r S2 (off + size) (fun x hx => k1 x (g2 x hx) (fun e => (g1 x e).2 hx)) (fun j hj => k2 j (.inr (by simpa using hj))) hrest
  | d :: r, S, off, i + 1, h, hr => by
    simp only [D.ownR] at hr
    obtain ⟨S1, S2, cs, g1, g2, hl, hc, hd, hrest⟩ := hr
    obtain ⟨T, cs1, a1, a2, a3, a4, a5⟩ := D.ownR_focus r S2 (off + size) i (by simpa using h) hrest
    have e : off + size + i * size = off + (i + 1) * size := by rw [Nat.add_mul, Nat.one_mul]; omega
    refine ⟨T, cs1, fun x hx => g2 x (a1 x hx), a2, fun j v hj => by rw [← e]; exact a3 j v hj, by simpa using a4, fun w' d' cs' k1 k2 k3 k4 k5 => ?_⟩
    simp only [List.set_cons_succ, D.ownR]
    have hsz : ∀ j, j < size → w'.cell? ⟨b, off + j, none⟩ = w.cell? ⟨b, off + j, none⟩ := fun j hj => k2 (off + j) (.inl (by rw [← e]; omega))
    refine ⟨S1, S2, cs, g1, g2, hl, fun j v hj => ?_, D.own_keep d S1 S1 cs (fun x hx => ⟨hx, k1 x (g1 x hx).1 (fun e => (g1 x hx).2 (a1 x e))⟩) hd, a5 w' d' cs' (fun x hx hT => k1 x (g2 x hx) hT) (fun j hj => k2 j (by rw [← e]; exact hj)) k3 (fun j v hj => by rw [e]; exact k4 j v hj) k5⟩
    have hjl : j < cs.length := (List.getElem?_eq_some_iff.1 hj).1
    rw [hsz j (by omega)]
    exact hc j v hj
where
  ownR_keep' {w w' : World} (size b : Nat) : ∀ (xs : List D) (S : Nat → Prop) (off : Nat), (∀ x, S x → w'.heap[x]? = w.heap[x]?) → (∀ j, off ≤ j → w'.cell? ⟨b, j, none⟩ = w.cell? ⟨b, j, none⟩) → D.ownR w size b xs S off → D.ownR w' size b xs S off
  | [], _, _, _, _, _ => by simp only [D.ownR]
  | d :: r, S, off, h1, h2, hr => by
    simp only [D.ownR] at hr ⊢
    obtain ⟨S1, S2, cs, g1, g2, hl, hc, hd, hrest⟩ := hr
    exact ⟨S1, S2, cs, g1, g2, hl, fun j v hj => (h2 (off + j) (by omega)).trans (hc j v hj), D.own_keep d S1 S1 cs (fun x hx => ⟨hx, h1 x (g1 x hx).1⟩) hd, ownR_keep' size b r S2 (off + size) (fun x hx => h1 x (g2 x hx)) (fun j hj => h2 j (by omega)) hrest⟩

/-- an element of an owned slice, and what may be put in its place -/
theorem Osl.focus {w : World} {S : Nat → Prop} {size : Nat} {A : Option Addr} {c : Nat} {xs : List D} (h : Osl w S size A c xs) (i : Nat) (hi : i < xs.length) :
    ∃ (b : Nat) (T : Nat → Prop) (cs : List Value), A = some ⟨b, 0, none⟩ ∧ S b ∧ ¬ T b ∧ (∀ o, w.frozen? ⟨b, o, none⟩ = false) ∧ (∀ x, T x → S x) ∧ cs.length = size ∧ (∀ j v, cs[j]? = some v → w.cell? ⟨b, i * size + j, none⟩ = some v) ∧ (xs[i]).own w T cs ∧
      ∀ (w' : World) (d' : D) (cs' : List Value), (∀ x, S x → x ≠ b → ¬ T x → w'.heap[x]? = w.heap[x]?) → (∀ j, (j < i * size ∨ i * size + size ≤ j) → w'.cell? ⟨b, j, none⟩ = w.cell? ⟨b, j, none⟩) → (∀ o, w'.frozen? ⟨b, o, none⟩ = false) →
        cs'.length = size → (∀ j v, cs'[j]? = some v → w'.cell? ⟨b, i * size + j, none⟩ = some v) → d'.own w' T cs' → Osl w' S size A c (xs.set i d') := by
  obtain ⟨h1, h2, h3 | ⟨b, rfl, hS, hf, hr⟩⟩ := h
  · subst h3; simp at hi
  · obtain ⟨T, cs, a1, a2, a3, a4, a5⟩ := D.ownR_focus xs _ 0 i hi hr
    refine ⟨b, T, cs, rfl, hS, fun e => (a1 b e).2 rfl, hf, fun x hx => (a1 x hx).1, a2, by simpa using a3, a4, fun w' d' cs' k1 k2 kf k3 k4 k5 => ⟨by simpa using h1, h2, .inr ⟨b, rfl, hS, kf, ?_⟩⟩⟩
    exact a5 w' d' cs' (fun x hx hT => k1 x hx.1 hx.2 hT) (by simpa using k2) k3 (by simpa using k4) k5

end Go.Proofs.Ytgbcdfeflgnogaa
