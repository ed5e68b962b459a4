/- append of data that lie elsewhere onto a slice of one's own (no program in sight). Conditions: the data lie below the slice. -/
import Derived.Test.YtgbcdfeflgnogaaApp
namespace Go.Proofs.Ytgbcdfeflgnogaa
open Go.RowKit
set_option linter.unusedVariables false
set_option linter.unusedSimpArgs false

/-- cells that read as data, size cells each -/
def rdC (w : World) (size : Nat) (S : Nat → Prop) : List D → List Value → Prop
  | [], cs => cs = []
  | d :: r, cs => ∃ c1 c2, cs = c1 ++ c2 ∧ c1.length = size ∧ d.rd w S c1 ∧ rdC w size S r c2
theorem rdC_keep {w w' : World} {size : Nat} {S S' : Nat → Prop} (hk : ∀ b, S b → S' b ∧ w'.heap[b]? = w.heap[b]?) : ∀ (xs : List D) (cs : List Value), rdC w size S xs cs → rdC w' size S' xs cs
  | [], _, h => h
  | d :: r, cs, h => by
    simp only [rdC] at h ⊢
    obtain ⟨c1, c2, e, hl, h1, h2⟩ := h
    exact ⟨c1, c2, e, hl, D.rd_keep hk d c1 h1, rdC_keep hk r c2 h2⟩
theorem rdC_snoc {w : World} {size : Nat} {S : Nat → Prop} {d : D} {c : List Value} (hd : d.rd w S c) (hc : c.length = size) : ∀ (xs : List D) (cs : List Value), rdC w size S xs cs → rdC w size S (xs ++ [d]) (cs ++ c)
  | [], cs, h => by
    simp only [rdC] at h
    subst h
    simp only [List.nil_append, rdC]
    exact ⟨c, [], by simp, hc, hd, rfl⟩
  | e :: r, cs, h => by
    simp only [rdC, List.cons_append] at h ⊢
    obtain ⟨c1, c2, rfl, hl, h1, h2⟩ := h
    exact ⟨c1, c2 ++ c, by simp, hl, h1, rdC_snoc hd hc r c2 h2⟩
theorem rdC_row {w : World} {size b : Nat} {S : Nat → Prop} : ∀ (xs : List D) (cs : List Value) (off : Nat), (∀ j v, cs[j]? = some v → w.cell? ⟨b, off + j, none⟩ = some v) → rdC w size S xs cs → D.rdR w S size b xs off
  | [], _, _, _, _ => by simp only [D.rdR]
  | d :: r, cs, off, hc, h => by
    simp only [rdC, D.rdR] at h ⊢
    obtain ⟨c1, c2, rfl, hl, h1, h2⟩ := h
    refine ⟨⟨c1, hl, fun j v hj => hc j v ?_, h1⟩, rdC_row r c2 (off + size) (fun j v hj => ?_) h2⟩
    · have : j < c1.length := (List.getElem?_eq_some_iff.1 hj).1
      rw [List.getElem?_append_left this]; exact hj
    · have := hc (size + j) v (by rw [List.getElem?_append_right (by omega), hl]; simpa using hj)
      rwa [← Nat.add_assoc] at this

/-- a slice that grows: nil, or a row of one's own from block B on; its data lie below B -/
def Gsh (w : World) (B : Nat) (e : TypeId) (size : Nat) (v : Value) (n : Nat) (xs : List D) : Prop :=
  xs.length = n ∧ ∃ cs, w.ownsRow B e size v n cs ∧ rdC w size (Lt B) xs cs
theorem Gsh.nil (w : World) (B : Nat) (e : TypeId) (size : Nat) : Gsh w B e size (.slice none 0 0) 0 [] :=
  ⟨rfl, [], World.ownsRow_nil w B e size, rfl⟩
theorem Gsh.made {w : World} {B g : Nat} {e : TypeId} {size : Nat} (hr : Row w g e #[]) (hB : B ≤ g) : Gsh w B e size (.slice (some ⟨g, 0, none⟩) 0 0) 0 [] :=
  ⟨rfl, [], ⟨by simp, .inr ⟨g, 0, #[], rfl, hB, hr, Nat.le_refl _, by unfold maxLen; omega, by simp, by simp⟩⟩, rfl⟩
theorem Gsh.below {w w' : World} {B : Nat} {e : TypeId} {size : Nat} {v : Value} {n : Nat} {xs : List D} (h : Gsh w B e size v n xs) (hb : Below w.heap.size w w') (hB : B ≤ w.heap.size) : Gsh w' B e size v n xs := by
  obtain ⟨h1, cs, h2, h4⟩ := h
  refine ⟨h1, cs, ?_, rdC_keep (fun b hb' => ⟨hb', hb.block b (Nat.lt_of_lt_of_le hb' hB)⟩) xs cs h4⟩
  refine ⟨h2.1, ?_⟩
  rcases h2.2 with h | ⟨g, cap, cur, rfl, a1, a2, a3⟩
  · exact .inl h
  · exact .inr ⟨g, cap, cur, rfl, a1, (hb.block g (h2.lt g rfl).2).trans a2, a3⟩
theorem Gsh.sl {w : World} {B : Nat} {e : TypeId} {size : Nat} {v : Value} {n : Nat} {xs : List D} (h : Gsh w B e size v n xs) (hB : B ≤ w.heap.size) : ∃ A c, v = .slice A n c ∧ Sl w (Lt w.heap.size) size A c xs := by
  obtain ⟨h1, cs, h2, h4⟩ := h
  have hlt := h2.lt
  rcases h2.2 with ⟨rfl, h⟩ | ⟨g, cap, cur, rfl, a1, a2, a3, a4, a5, a6⟩
  · have : xs = [] := List.eq_nil_of_length_eq_zero (by omega)
    subst this
    exact ⟨none, 0, by rw [h], Sl.nil (by unfold maxLen; omega)⟩
  · refine ⟨_, cap, rfl, by omega, a4, .inr ⟨g, 0, rfl, (hlt g rfl).2, ?_⟩⟩
    refine rdC_row xs cs 0 (fun j v hj => ?_) (rdC_keep (fun b hb => ⟨Nat.lt_of_lt_of_le hb hB, rfl⟩) xs cs h4)
    rw [Nat.zero_add, Row.cell (t := e) (cs := cur) a2]
    rw [← a6, List.getElem?_take] at hj
    split at hj
    · simpa using hj
    · cases hj
theorem Gsh.step {w w' : World} {B g cap : Nat} {e e' : TypeId} {size : Nat} {v : Value} {n : Nat} {xs : List D} {d : D} {cs cells : List Value} (hB : B ≤ w.heap.size)
    (hxs : xs.length = n) (hbase : ∀ g, v.ownBlock = some g → B ≤ g) (hoc : rdC w size (Lt B) xs cells) (hd : d.rd w (Lt B) cs) (hcs : cs.length = size)
    (hown : w'.ownsRow B e size (.slice (some ⟨g, 0, none⟩) (n + 1) cap) (n + 1) (cells ++ cs)) (hgrow : (w.alloc (.cells cs.toArray e')).grownBy w' v.ownBlock) :
    Gsh w' B e size (.slice (some ⟨g, 0, none⟩) (n + 1) cap) (n + 1) (xs ++ [d]) := by
  have hne : ∀ b, b < B → w'.heap[b]? = w.heap[b]? := fun b hb =>
    (hgrow.block b (by simp; omega) (fun e => by have := hbase b e.symm; omega)).trans (Below.heap_alloc w _ b (by omega))
  exact ⟨by simp [hxs], cells ++ cs, hown, rdC_snoc (D.rd_keep (fun b hb => ⟨hb, hne b hb⟩) d cs hd) hcs xs cells (rdC_keep (fun b hb => ⟨hb, hne b hb⟩) xs cells hoc)⟩

theorem wpList_append_S {P : Program} (w : World) {ops : Array Oper} {rest : List Oper} {o : Oper} {a : Act} {Q : Exit → Act → World → Prop} (hgd : o.guard = none) (s x : Operand) (t : TypeId) (ho : o.op = .call { callee := .builtin .append, args := #[s, x], argTypes := #[t, t] })
    (e : TypeId) (z : Value) (size bytes : Nat) (ht : P.underlying t = some (.slice e)) (hi : (P.info? e).map (fun i => (i.zero, i.size, i.bytes)) = some (some z, size, bytes)) (hzs : z.cells.size = size) (hsz : 0 < size)
    (B : Nat) (v : Value) (n : Nat) (xs : List D) (hg : Gsh w B e size v n xs) (d : D) (cs : List Value) (hd : d.rd w (Lt B) cs) (hB : B ≤ w.heap.size) (hcs : cs.length = size) (h1 : ∀ u ∈ cs, u.oneCell' = true)
    (hn : n < 1048577) (hby : bytes ≤ 1048576) (e' : TypeId) (hs : a.eval s = v) (A : Nat) (hA : A = w.heap.size) (hx : a.eval x = .slice (some ⟨A, 0, none⟩) 1 1)
    (h : ∀ g cap w', Gsh w' B e size (.slice (some ⟨g, 0, none⟩) (n + 1) cap) (n + 1) (xs ++ [d]) → Below B w w' → w.heap.size ≤ w'.heap.size → B ≤ g → g < w'.heap.size → wpList P ops Q rest (a.put o.dst (.slice (some ⟨g, 0, none⟩) (n + 1) cap)) w') : wpList P ops Q (o :: rest) a (w.alloc (.cells cs.toArray e')) := by
  obtain ⟨i, i1, i2, i3, i4⟩ := info_parts hi
  obtain ⟨hxs, cells, g2, g4⟩ := id hg
  have e1 : w.heap.size < (w.alloc (.cells cs.toArray e')).heap.size := by simp
  have hga := g2.alloc (.cells cs.toArray e')
  have hnews : ∀ j u, cs[j]? = some u → (w.alloc (.cells cs.toArray e')).cell? ((⟨A, 0, none⟩ : Addr).add j) = some u := fun j u hu => by
    subst hA
    exact World.news_of_block (cs := cs.toArray) (heap_alloc_new w _) j u (by simpa using hu)
  have hbt : (n + 1) * bytes ≤ 140737488355328 := Nat.le_trans (Nat.mul_le_mul (show n + 1 ≤ 1048577 by omega) hby) (by omega)
  exact wpList_append_lies (w.alloc (.cells cs.toArray e')) hgd s x t ho B e i z size bytes ht i1 i2 i3 i4 hzs hsz v n cells hs hga ⟨A, 0, none⟩ 1 1 cs hx (by omega) hnews h1 (by omega) (by unfold maxLen; omega) hbt (by simp; omega) _ rfl fun g cap w' h2 h3 h4 h5 => h g cap w' (Gsh.step (e' := e') hB hxs (fun g hg => (g2.lt g hg).1) g4 hd hcs h2 h3)
    (((Below.refl _ _).alloc (by omega) _).trans (⟨h3.os, h3.tape, h3.output, h3.size, fun b hb => h3.block b (by omega) (fun e => by have := (g2.lt b e.symm).1; omega)⟩)) (Nat.le_trans (Nat.le_of_lt e1) h3.size) (h2.lt g rfl).1 h5

theorem step_append_S {P : Program} (w : World) {ops : Array Oper} {o : Oper} {a : Act} {K : Act → World → Prop} {Q : Exit → Act → World → Prop} {E : Prop} (hgd : o.guard = none) (s x : Operand) (t : TypeId) (ho : o.op = .call { callee := .builtin .append, args := #[s, x], argTypes := #[t, t] })
    (e : TypeId) (z : Value) (size bytes : Nat) (ht : P.underlying t = some (.slice e)) (hi : (P.info? e).map (fun i => (i.zero, i.size, i.bytes)) = some (some z, size, bytes)) (hzs : z.cells.size = size) (hsz : 0 < size)
    (B : Nat) (v : Value) (n : Nat) (xs : List D) (hg : Gsh w B e size v n xs) (d : D) (cs : List Value) (hd : d.rd w (Lt B) cs) (hB : B ≤ w.heap.size) (hcs : cs.length = size) (h1 : ∀ u ∈ cs, u.oneCell' = true)
    (hn : n < 1048577) (hby : bytes ≤ 1048576) (e' : TypeId) (hs : a.eval s = v) (A : Nat) (hA : A = w.heap.size) (hx : a.eval x = .slice (some ⟨A, 0, none⟩) 1 1)
    (h : ∀ g cap w', Gsh w' B e size (.slice (some ⟨g, 0, none⟩) (n + 1) cap) (n + 1) (xs ++ [d]) → Below B w w' → w.heap.size ≤ w'.heap.size → B ≤ g → g < w'.heap.size → K (a.put o.dst (.slice (some ⟨g, 0, none⟩) (n + 1) cap)) w') : if Region.wanted o (yielded ops a.tmps) = true then Oper.wp P o a (w.alloc (.cells cs.toArray e')) K Q else E := by
  obtain ⟨i, i1, i2, i3, i4⟩ := info_parts hi
  obtain ⟨hxs, cells, g2, g4⟩ := id hg
  have e1 : w.heap.size < (w.alloc (.cells cs.toArray e')).heap.size := by simp
  have hga := g2.alloc (.cells cs.toArray e')
  have hnews : ∀ j u, cs[j]? = some u → (w.alloc (.cells cs.toArray e')).cell? ((⟨A, 0, none⟩ : Addr).add j) = some u := fun j u hu => by
    subst hA
    exact World.news_of_block (cs := cs.toArray) (heap_alloc_new w _) j u (by simpa using hu)
  have hbt : (n + 1) * bytes ≤ 140737488355328 := Nat.le_trans (Nat.mul_le_mul (show n + 1 ≤ 1048577 by omega) hby) (by omega)
  exact step_append_lies (w.alloc (.cells cs.toArray e')) hgd s x t ho B e i z size bytes ht i1 i2 i3 i4 hzs hsz v n cells hs hga ⟨A, 0, none⟩ 1 1 cs hx (by omega) hnews h1 (by omega) (by unfold maxLen; omega) hbt (by simp; omega) _ rfl fun g cap w' h2 h3 h4 h5 => h g cap w' (Gsh.step (e' := e') hB hxs (fun g hg => (g2.lt g hg).1) g4 hd hcs h2 h3)
    (((Below.refl _ _).alloc (by omega) _).trans (⟨h3.os, h3.tape, h3.output, h3.size, fun b hb => h3.block b (by omega) (fun e => by have := (g2.lt b e.symm).1; omega)⟩)) (Nat.le_trans (Nat.le_of_lt e1) h3.size) (h2.lt g rfl).1 h5

end Go.Proofs.Ytgbcdfeflgnogaa
