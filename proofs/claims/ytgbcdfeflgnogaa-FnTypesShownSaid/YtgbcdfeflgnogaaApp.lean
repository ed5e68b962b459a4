/- append of data onto a slice of one's own: what it owns afterwards (no program in sight). Conditions: none. -/
import Derived.Test.YtgbcdfeflgnogaaMem
import Derived.Deep.AppendLies
namespace Go.Proofs.Ytgbcdfeflgnogaa
open Go.RowKit
set_option linter.unusedVariables false
set_option linter.unusedSimpArgs false

/-- cells that are data, size cells each, each with blocks of its own -/
def ownC (w : World) (size : Nat) : List D → (Nat → Prop) → List Value → Prop
  | [], _, cs => cs = []
  | d :: r, S, cs => ∃ (S1 S2 : Nat → Prop) (c1 c2 : List Value), (∀ x, S1 x → S x ∧ ¬ S2 x) ∧ (∀ x, S2 x → S x) ∧ cs = c1 ++ c2 ∧ c1.length = size ∧ d.own w S1 c1 ∧ ownC w size r S2 c2

theorem ownC_keep {w w' : World} {size : Nat} : ∀ (xs : List D) (S S' : Nat → Prop) (cs : List Value), (∀ b, S b → S' b ∧ w'.heap[b]? = w.heap[b]?) → ownC w size xs S cs → ownC w' size xs S' cs
  | [], _, _, _, _, h => h
  | d :: r, S, S', cs, hk, h => by
    simp only [ownC] at h ⊢
    obtain ⟨S1, S2, c1, c2, g1, g2, e, hl, h1, h2⟩ := h
    exact ⟨S1, S2, c1, c2, fun x hx => ⟨(hk x (g1 x hx).1).1, (g1 x hx).2⟩, fun x hx => (hk x (g2 x hx)).1, e, hl, D.own_keep d S1 S1 c1 (fun b hb => ⟨hb, (hk b (g1 b hb).1).2⟩) h1, ownC_keep r S2 S2 c2 (fun b hb => ⟨hb, (hk b (g2 b hb)).2⟩) h2⟩

theorem ownC_snoc {w : World} {size : Nat} {d : D} {c : List Value} {T S : Nat → Prop} (hd : d.own w T c) (hc : c.length = size) (hT : ∀ x, T x → S x) :
    ∀ (xs : List D) (U : Nat → Prop) (cs : List Value), (∀ x, U x → S x ∧ ¬ T x) → ownC w size xs U cs → ownC w size (xs ++ [d]) (fun x => U x ∨ T x) (cs ++ c)
  | [], U, cs, _, h => by
    simp only [ownC] at h
    subst h
    simp only [List.nil_append, ownC]
    exact ⟨T, fun _ => False, c, [], fun x hx => ⟨.inr hx, fun h => h⟩, fun x hx => hx.elim, by simp, hc, hd, rfl⟩
  | e :: r, U, cs, hU, h => by
    simp only [ownC, List.cons_append] at h ⊢
    obtain ⟨S1, S2, c1, c2, g1, g2, rfl, hl, h1, h2⟩ := h
    refine ⟨S1, fun x => S2 x ∨ T x, c1, c2 ++ c, fun x hx => ⟨.inl (g1 x hx).1, fun h => ?_⟩, fun x hx => hx.elim (fun h => .inl (g2 x h)) .inr, by simp, hl, h1, ownC_snoc hd hc hT r S2 c2 (fun x hx => hU x (g2 x hx)) h2⟩
    rcases h with h | h
    · exact (g1 x hx).2 h
    · exact (hU x (g1 x hx).1).2 h

theorem ownC_row {w : World} {size b : Nat} : ∀ (xs : List D) (S : Nat → Prop) (cs : List Value) (off : Nat), (∀ j v, cs[j]? = some v → w.cell? ⟨b, off + j, none⟩ = some v) → ownC w size xs S cs → D.ownR w size b xs S off
  | [], _, _, _, _, _ => by simp only [D.ownR]
  | d :: r, S, cs, off, hc, h => by
    simp only [ownC, D.ownR] at h ⊢
    obtain ⟨S1, S2, c1, c2, g1, g2, rfl, hl, h1, h2⟩ := h
    refine ⟨S1, S2, c1, g1, g2, hl, fun j v hj => hc j v ?_, h1, ownC_row r S2 c2 (off + size) (fun j v hj => ?_) h2⟩
    · have : j < c1.length := (List.getElem?_eq_some_iff.1 hj).1
      rw [List.getElem?_append_left this]; exact hj
    · have := hc (size + j) v (by rw [List.getElem?_append_right (by omega), hl]; simpa using hj)
      rwa [← Nat.add_assoc] at this

/-- a slice that grows: nil, or a row of one's own (from block B on, below m); its n data lie in blocks of their own -/
def Gow (w : World) (B m : Nat) (e : TypeId) (size : Nat) (v : Value) (n : Nat) (xs : List D) : Prop :=
  xs.length = n ∧ ∃ cs, w.ownsRow B e size v n cs ∧ (∀ g, v.ownBlock = some g → g < m) ∧ ownC w size xs (fun b => B ≤ b ∧ b < m ∧ v.ownBlock ≠ some b) cs

theorem Gow.nil (w : World) (B m : Nat) (e : TypeId) (size : Nat) : Gow w B m e size (.slice none 0 0) 0 [] :=
  ⟨rfl, [], World.ownsRow_nil w B e size, fun g h => by simp [Value.ownBlock] at h, rfl⟩

theorem Gow.keep {w w' : World} {B m m' : Nat} {e : TypeId} {size : Nat} {v : Value} {n : Nat} {xs : List D} (h : Gow w B m e size v n xs) (hm : m ≤ m') (hk : ∀ b, B ≤ b → b < m → w'.heap[b]? = w.heap[b]?) : Gow w' B m' e size v n xs := by
  obtain ⟨h1, cs, h2, h3, h4⟩ := h
  refine ⟨h1, cs, ?_, fun g hg => Nat.lt_of_lt_of_le (h3 g hg) hm, ownC_keep xs _ _ cs (fun b hb => ⟨⟨hb.1, Nat.lt_of_lt_of_le hb.2.1 hm, hb.2.2⟩, hk b hb.1 hb.2.1⟩) h4⟩
  refine ⟨h2.1, ?_⟩
  rcases h2.2 with h | ⟨g, cap, cur, rfl, a1, a2, a3⟩
  · exact .inl h
  · exact .inr ⟨g, cap, cur, rfl, a1, (hk g a1 (h3 g rfl)).trans a2, a3⟩

theorem Gow.below {w w' : World} {B m m' : Nat} {e : TypeId} {size : Nat} {v : Value} {n : Nat} {xs : List D} (h : Gow w B m e size v n xs) (hb : Below m w w') (hm : m ≤ m') : Gow w' B m' e size v n xs :=
  h.keep hm fun b _ hb' => hb.block b hb'

/-- an empty slice that was just made -/
theorem Gow.made {w : World} {B m g : Nat} {e : TypeId} {size : Nat} (hr : Row w g e #[]) (hB : B ≤ g) (hm : g < m) : Gow w B m e size (.slice (some ⟨g, 0, none⟩) 0 0) 0 [] :=
  ⟨rfl, [], ⟨by simp, .inr ⟨g, 0, #[], rfl, hB, hr, Nat.le_refl _, by unfold maxLen; omega, by simp, by simp⟩⟩, fun g' h => by simp [Value.ownBlock] at h; omega, rfl⟩

/-- what has grown is owned -/
theorem Gow.osl {w : World} {B m : Nat} {e : TypeId} {size : Nat} {v : Value} {n : Nat} {xs : List D} (h : Gow w B m e size v n xs) : ∃ A c, v = .slice A n c ∧ Osl w (Btw B m) size A c xs := by
  obtain ⟨h1, cs, h2, h3, h4⟩ := h
  rcases h2.2 with ⟨rfl, h⟩ | ⟨g, cap, cur, rfl, a1, a2, a3, a4, a5, a6⟩
  · have : xs = [] := List.eq_nil_of_length_eq_zero (by omega)
    subst this
    exact ⟨none, 0, by rw [h], Osl.nil (by unfold maxLen; omega)⟩
  · refine ⟨_, cap, rfl, by omega, a4, .inr ⟨g, rfl, ⟨a1, h3 g rfl⟩, fun o => Row.frozen (t := e) (cs := cur) a2 o, ?_⟩⟩
    refine ownC_row xs _ cs 0 (fun j v hj => ?_) (ownC_keep xs _ _ cs (fun b hb => ⟨⟨⟨hb.1, hb.2.1⟩, fun e => hb.2.2 (by rw [e]; rfl)⟩, rfl⟩) h4)
    rw [Nat.zero_add, Row.cell (t := e) (cs := cur) a2]
    rw [← a6, List.getElem?_take] at hj
    split at hj
    · simpa using hj
    · cases hj

/-- behind an append -/
theorem Gow.step {w w' : World} {B m g cap H : Nat} {e e' : TypeId} {size : Nat} {v : Value} {n : Nat} {xs : List D} {d : D} {cs : List Value} {cells : List Value} (hB : B ≤ m) (hm : m ≤ w.heap.size)
    (hxs : xs.length = n) (hlt0 : ∀ g, v.ownBlock = some g → g < m) (hoc : ownC w size xs (fun b => B ≤ b ∧ b < m ∧ v.ownBlock ≠ some b) cells) (hd : d.own w (Btw m w.heap.size) cs) (hcs : cs.length = size)
    (hH : H = w.heap.size + 1) (hown : w'.ownsRow B e size (.slice (some ⟨g, 0, none⟩) (n + 1) cap) (n + 1) (cells ++ cs)) (hgrow : (w.alloc (.cells cs.toArray e')).grownBy w' v.ownBlock) (hat : v.ownBlock = some g ∨ g = H) (hlt : g < w'.heap.size) :
    Gow w' B w'.heap.size e size (.slice (some ⟨g, 0, none⟩) (n + 1) cap) (n + 1) (xs ++ [d]) := by
  have hsz : (w.alloc (.cells cs.toArray e')).heap.size ≤ w'.heap.size := hgrow.size
  have hsz' : w.heap.size + 1 ≤ w'.heap.size := by simpa using hsz
  have hne : ∀ b, b < w.heap.size → v.ownBlock ≠ some b → w'.heap[b]? = w.heap[b]? := fun b hb hb2 =>
    (hgrow.block b (by simp; omega) (fun e => hb2 e.symm)).trans (Below.heap_alloc w _ b hb)
  refine ⟨by simp [hxs], cells ++ cs, hown, fun g' hg' => by simp [Value.ownBlock] at hg'; omega, ?_⟩
  have hgm : g < m ∨ g = H := by
    rcases hat with h | h
    · exact .inl (hlt0 g h)
    · exact .inr h
  have k1 := ownC_keep (w' := w') xs _ (fun b => B ≤ b ∧ b < m ∧ v.ownBlock ≠ some b) cells (fun b hb => ⟨hb, hne b (by omega) hb.2.2⟩) hoc
  have k2 := D.own_keep (w' := w') d _ (Btw m w.heap.size) cs (fun b hb => ⟨hb, hne b hb.2 (fun e => by have := hlt0 b e; have := hb.1; omega)⟩) hd
  have k3 := ownC_snoc (S := fun b => B ≤ b) k2 hcs (fun x hx => Nat.le_trans hB hx.1) xs _ cells (fun x hx => ⟨hx.1, fun h => by have := h.1; omega⟩) k1
  refine ownC_keep _ _ _ _ (fun b hb => ⟨?_, rfl⟩) k3
  rcases hb with ⟨b1, b2, b3⟩ | ⟨b1, b2⟩
  · refine ⟨b1, by omega, fun e => ?_⟩
    simp only [Value.ownBlock, Option.some.injEq] at e
    subst e
    rcases hat with h | h
    · exact b3 h
    · omega
  · refine ⟨by omega, by omega, fun e => ?_⟩
    simp only [Value.ownBlock, Option.some.injEq] at e
    omega

theorem Gow.grown {w w' : World} {B m : Nat} {e : TypeId} {size : Nat} {v : Value} {n : Nat} {xs : List D} (h : Gow w B m e size v n xs) (hg : w.grownBy w' v.ownBlock) (hm : B ≤ w.heap.size) : Below B w w' := by
  refine ⟨hg.os, hg.tape, hg.output, hg.size, fun b hb => hg.block b (by omega) (fun e => ?_)⟩
  obtain ⟨_, cs, h2, _, _⟩ := h
  have := h2.lt b e.symm
  omega

theorem wpList_append_D {P : Program} (w : World) {ops : Array Oper} {rest : List Oper} {o : Oper} {a : Act} {Q : Exit → Act → World → Prop} (hgd : o.guard = none) (s x : Operand) (t : TypeId) (ho : o.op = .call { callee := .builtin .append, args := #[s, x], argTypes := #[t, t] })
    (e : TypeId) (z : Value) (size bytes : Nat) (ht : P.underlying t = some (.slice e)) (hi : (P.info? e).map (fun i => (i.zero, i.size, i.bytes)) = some (some z, size, bytes)) (hzs : z.cells.size = size) (hsz : 0 < size)
    (B m : Nat) (v : Value) (n : Nat) (xs : List D) (hg : Gow w B m e size v n xs) (d : D) (cs : List Value) (hd : d.own w (Btw m w.heap.size) cs) (hB : B ≤ m) (hm : m ≤ w.heap.size) (hcs : cs.length = size) (h1 : ∀ u ∈ cs, u.oneCell' = true)
    (hn : n < 1048577) (hby : bytes ≤ 1048576) (e' : TypeId) (hs : a.eval s = v) (A : Nat) (hA : A = w.heap.size) (hx : a.eval x = .slice (some ⟨A, 0, none⟩) 1 1)
    (h : ∀ g cap w', Gow w' B w'.heap.size e size (.slice (some ⟨g, 0, none⟩) (n + 1) cap) (n + 1) (xs ++ [d]) → Below B w w' → w.heap.size ≤ w'.heap.size → B ≤ g → g < w'.heap.size → wpList P ops Q rest (a.put o.dst (.slice (some ⟨g, 0, none⟩) (n + 1) cap)) w') : wpList P ops Q (o :: rest) a (w.alloc (.cells cs.toArray e')) := by
  obtain ⟨i, i1, i2, i3, i4⟩ := info_parts hi
  obtain ⟨hxs, cells, g2, g3, g4⟩ := id hg
  have e1 : w.heap.size < (w.alloc (.cells cs.toArray e')).heap.size := by simp
  have hga := g2.alloc (.cells cs.toArray e')
  have hnews : ∀ j u, cs[j]? = some u → (w.alloc (.cells cs.toArray e')).cell? ((⟨A, 0, none⟩ : Addr).add j) = some u := fun j u hu => by
    subst hA
    exact World.news_of_block (cs := cs.toArray) (heap_alloc_new w _) j u (by simpa using hu)
  have hbt : (n + 1) * bytes ≤ 140737488355328 := Nat.le_trans (Nat.mul_le_mul (show n + 1 ≤ 1048577 by omega) hby) (by omega)
  exact wpList_append_lies (w.alloc (.cells cs.toArray e')) hgd s x t ho B e i z size bytes ht i1 i2 i3 i4 hzs hsz v n cells hs hga ⟨A, 0, none⟩ 1 1 cs hx (by omega) hnews h1 (by omega) (by unfold maxLen; omega) hbt (by simp; omega) _ rfl fun g cap w' h2 h3 h4 h5 => h g cap w' (Gow.step (e' := e') hB hm hxs g3 g4 hd hcs (by simp) h2 h3 h4 h5)
    (((Below.refl _ _).alloc (by omega) _).trans (Gow.grown (hg.below (m := m) (m' := m) ((Below.refl _ _).alloc hm _) (Nat.le_refl _)) h3 (by omega))) (Nat.le_trans (Nat.le_of_lt e1) h3.size) (h2.lt g rfl).1 h5

theorem step_append_D {P : Program} (w : World) {ops : Array Oper} {o : Oper} {a : Act} {K : Act → World → Prop} {Q : Exit → Act → World → Prop} {E : Prop} (hgd : o.guard = none) (s x : Operand) (t : TypeId) (ho : o.op = .call { callee := .builtin .append, args := #[s, x], argTypes := #[t, t] })
    (e : TypeId) (z : Value) (size bytes : Nat) (ht : P.underlying t = some (.slice e)) (hi : (P.info? e).map (fun i => (i.zero, i.size, i.bytes)) = some (some z, size, bytes)) (hzs : z.cells.size = size) (hsz : 0 < size)
    (B m : Nat) (v : Value) (n : Nat) (xs : List D) (hg : Gow w B m e size v n xs) (d : D) (cs : List Value) (hd : d.own w (Btw m w.heap.size) cs) (hB : B ≤ m) (hm : m ≤ w.heap.size) (hcs : cs.length = size) (h1 : ∀ u ∈ cs, u.oneCell' = true)
    (hn : n < 1048577) (hby : bytes ≤ 1048576) (e' : TypeId) (hs : a.eval s = v) (A : Nat) (hA : A = w.heap.size) (hx : a.eval x = .slice (some ⟨A, 0, none⟩) 1 1)
    (h : ∀ g cap w', Gow w' B w'.heap.size e size (.slice (some ⟨g, 0, none⟩) (n + 1) cap) (n + 1) (xs ++ [d]) → Below B w w' → w.heap.size ≤ w'.heap.size → B ≤ g → g < w'.heap.size → K (a.put o.dst (.slice (some ⟨g, 0, none⟩) (n + 1) cap)) w') : if Region.wanted o (yielded ops a.tmps) = true then Oper.wp P o a (w.alloc (.cells cs.toArray e')) K Q else E := by
  obtain ⟨i, i1, i2, i3, i4⟩ := info_parts hi
  obtain ⟨hxs, cells, g2, g3, g4⟩ := id hg
  have e1 : w.heap.size < (w.alloc (.cells cs.toArray e')).heap.size := by simp
  have hga := g2.alloc (.cells cs.toArray e')
  have hnews : ∀ j u, cs[j]? = some u → (w.alloc (.cells cs.toArray e')).cell? ((⟨A, 0, none⟩ : Addr).add j) = some u := fun j u hu => by
    subst hA
    exact World.news_of_block (cs := cs.toArray) (heap_alloc_new w _) j u (by simpa using hu)
  have hbt : (n + 1) * bytes ≤ 140737488355328 := Nat.le_trans (Nat.mul_le_mul (show n + 1 ≤ 1048577 by omega) hby) (by omega)
  exact step_append_lies (w.alloc (.cells cs.toArray e')) hgd s x t ho B e i z size bytes ht i1 i2 i3 i4 hzs hsz v n cells hs hga ⟨A, 0, none⟩ 1 1 cs hx (by omega) hnews h1 (by omega) (by unfold maxLen; omega) hbt (by simp; omega) _ rfl fun g cap w' h2 h3 h4 h5 => h g cap w' (Gow.step (e' := e') hB hm hxs g3 g4 hd hcs (by simp) h2 h3 h4 h5)
    (((Below.refl _ _).alloc (by omega) _).trans (Gow.grown (hg.below (m := m) (m' := m) ((Below.refl _ _).alloc hm _) (Nat.le_refl _)) h3 (by omega))) (Nat.le_trans (Nat.le_of_lt e1) h3.size) (h2.lt g rfl).1 h5

end Go.Proofs.Ytgbcdfeflgnogaa
