/- Rows of numbers, and growing slices cut by one (no program in sight). Conditions: none. -/
import Derived.Test.YtgbcdfeflgnogaaGrow
import Derived.Test.YtgbcdfeflgnogaaInt
namespace Go.Proofs.Ytgbcdfeflgnogaa
open Go.RowKit
set_option linter.unusedVariables false
set_option linter.unusedSimpArgs false

/-- the cells of a list of numbers -/
def rowI (l : List Int) : Array Value := (l.map (Value.int .i64)).toArray
theorem rowI_get {l : List Int} {k : Nat} (h : k < l.length) : (rowI l)[k]? = some (.int .i64 l[k]) := by
  unfold rowI; simp [h]
theorem rowI_set (l : List Int) (k : Nat) (d : Int) : (rowI l).setIfInBounds k (.int .i64 d) = rowI (l.set k d) := by
  unfold rowI; rw [List.map_set]; simp
theorem rowI_size (l : List Int) : (rowI l).size = l.length := by unfold rowI; simp
theorem zr_int (n : Nat) : zr (.int .i64 0) 1 n = rowI (List.replicate n 0) := by
  unfold zr rowI madeCells
  apply Array.ext
  · simp [Value.cells]
  · intro i h1 h2
    have e : i % 1 = 0 := Nat.mod_one i
    simp [Value.cells, e]
theorem wf_i64 {n : Int} (h1 : -9223372036854775808 ≤ n) (h2 : n ≤ 9223372036854775807) : (Lit.int .i64 n).wf = true := by
  simp [Lit.wf, IntKind.min, IntKind.max, IntKind.signed, IntKind.bits]; omega
theorem rowI_ownR {w : World} {b : Nat} : ∀ (l : List Int) (S : Nat → Prop) (off : Nat), (∀ x ∈ l, (Lit.int .i64 x).wf = true) → (∀ k (h : k < l.length), w.cell? ⟨b, off + k, none⟩ = some (.int .i64 l[k])) → D.ownR w 1 b (l.map (D.num .i64)) S off
  | [], _, _, _, _ => by simp only [List.map_nil, D.ownR]
  | x :: r, S, off, hw, hc => by
    simp only [List.map_cons, D.ownR]
    refine ⟨fun _ => False, S, [.int .i64 x], fun _ h => h.elim, fun _ h => h, rfl, fun j v hj => ?_, D.own_num.2 ⟨rfl, hw x (by simp)⟩, rowI_ownR r S (off + 1) (fun y hy => hw y (by simp [hy])) fun k h => ?_⟩
    · match j with
      | 0 => have := hc 0 (by simp); simp at hj; subst hj; simpa using this
      | j + 1 => simp at hj
    · have := hc (k + 1) (by simpa using h)
      rw [show off + 1 + k = off + (k + 1) by omega]
      simpa using this
theorem rowI_osl {w : World} {g B : Nat} {t : TypeId} {l : List Int} (h : Row w g t (rowI l)) (hB : B ≤ g) (hl : l.length ≤ maxLen) (hw : ∀ x ∈ l, (Lit.int .i64 x).wf = true) : Osl w (Btw B w.heap.size) 1 (some ⟨g, 0, none⟩) l.length (l.map (D.num .i64)) :=
  ⟨by simp, hl, .inr ⟨g, rfl, ⟨hB, h.lt⟩, fun o => h.frozen o, rowI_ownR l _ 0 hw fun k hk => by rw [Nat.zero_add, h.cell, rowI_get hk]⟩⟩
theorem rowI_sl {w : World} {g : Nat} {t : TypeId} {l : List Int} (h : Row w g t (rowI l)) (hl : l.length ≤ maxLen) (hw : ∀ x ∈ l, (Lit.int .i64 x).wf = true) : Sl w (Lt w.heap.size) 1 (some ⟨g, 0, none⟩) l.length (l.map (D.num .i64)) :=
  ((rowI_osl (B := 0) h (by omega) hl hw).sl).keep fun b hb => ⟨hb.2, rfl⟩

theorem rdC_len {w : World} {size : Nat} {S : Nat → Prop} : ∀ (xs : List D) (cs : List Value), rdC w size S xs cs → cs.length = xs.length * size
  | [], cs, h => by simp only [rdC] at h; simp [h]
  | d :: r, cs, h => by
    simp only [rdC] at h
    obtain ⟨c1, c2, rfl, hl, _, h2⟩ := h
    have := rdC_len r c2 h2
    rw [List.length_append, hl, this, List.length_cons, Nat.add_mul]; omega
theorem rdC_init {w : World} {size : Nat} {S : Nat → Prop} {d : D} : ∀ (xs : List D) (cs : List Value), rdC w size S (xs ++ [d]) cs → ∃ c1 c2, cs = c1 ++ c2 ∧ rdC w size S xs c1
  | [], cs, h => ⟨[], cs, rfl, rfl⟩
  | x :: r, cs, h => by
    simp only [List.cons_append, rdC] at h
    obtain ⟨c1, c2, rfl, hl, h1, h2⟩ := h
    obtain ⟨e1, e2, rfl, h3⟩ := rdC_init r c2 h2
    refine ⟨c1 ++ e1, e2, by simp, ?_⟩
    simp only [rdC]
    exact ⟨c1, e1, rfl, hl, h1, h3⟩
/-- the last element cut off -/
theorem Gsh.pop {w : World} {B : Nat} {e : TypeId} {size : Nat} {A : Option Addr} {c n : Nat} {d : D} {xs : List D} (h : Gsh w B e size (.slice A (n + 1) c) (n + 1) (xs ++ [d])) : Gsh w B e size (.slice A n c) n xs := by
  obtain ⟨h1, cs, h2, h4⟩ := h
  have hx : xs.length = n := by simpa using h1
  obtain ⟨c1, c2, rfl, h5⟩ := rdC_init xs cs h4
  have hc1 := rdC_len _ _ h5
  refine ⟨hx, c1, ⟨by rw [hc1, hx], ?_⟩, h5⟩
  rcases h2.2 with ⟨_, h⟩ | ⟨g, cap, cur, hv, a1, a2, a3, a4, a5, a6⟩
  · omega
  · simp only [Value.slice.injEq] at hv
    obtain ⟨rfl, _, rfl⟩ := hv
    refine .inr ⟨g, c, cur, rfl, a1, a2, by omega, a4, a5, ?_⟩
    have e1 : (c1 ++ c2).take (n * size) = c1 := by rw [← hx, ← hc1]; simp
    rw [← a6, List.take_take] at e1
    rwa [Nat.min_eq_left (by rw [Nat.add_mul]; omega)] at e1
/-- a slice that was just laid -/
theorem Gsh.laid {w : World} {B g : Nat} {e : TypeId} {size : Nat} {cs : Array Value} {n : Nat} {xs : List D} (hr : Row w g e cs) (hB : B ≤ g) (hx : rdC w size (Lt B) xs cs.toList) (hn : xs.length = n) (hm : n ≤ maxLen) : Gsh w B e size (.slice (some ⟨g, 0, none⟩) n n) n xs := by
  have hl := rdC_len _ _ hx
  rw [hn] at hl
  exact ⟨hn, cs.toList, ⟨hl, .inr ⟨g, n, cs, rfl, hB, hr, Nat.le_refl _, hm, by simpa using hl, by rw [← hl]; exact List.take_length⟩⟩, hx⟩
theorem rdC_int {w : World} {S : Nat → Prop} : ∀ (l : List Int), (∀ x ∈ l, (Lit.int .i64 x).wf = true) → rdC w 1 S (l.map (D.num .i64)) (l.map (Value.int .i64))
  | [], _ => rfl
  | x :: r, h => by
    simp only [List.map_cons, rdC]
    exact ⟨[.int .i64 x], r.map (Value.int .i64), rfl, rfl, D.rd_num.2 ⟨rfl, h x (by simp)⟩, rdC_int r fun y hy => h y (by simp [hy])⟩
end Go.Proofs.Ytgbcdfeflgnogaa
