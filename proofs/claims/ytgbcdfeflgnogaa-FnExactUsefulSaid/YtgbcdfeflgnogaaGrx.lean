/- Growing slices of one's own whose data lie in given blocks (X), never in the row itself: append of many data (no program in sight). Conditions: none. -/
import Derived.Test.YtgbcdfeflgnogaaAppM
namespace Go.Proofs.Ytgbcdfeflgnogaa
open Go.RowKit
set_option linter.unusedVariables false
set_option linter.unusedSimpArgs false

/-- a slice that grows: nil, or a row of one's own from block B on; its data lie anywhere but in that row -/
def Grx (X : Nat → Prop) (w : World) (B : Nat) (e : TypeId) (size : Nat) (v : Value) (n : Nat) (xs : List D) : Prop :=
  xs.length = n ∧ ∃ cs, w.ownsRow B e size v n cs ∧ rdC w size (fun b => b < w.heap.size ∧ v.ownBlock ≠ some b ∧ X b) xs cs
theorem Grx.nil (X : Nat → Prop) (w : World) (B : Nat) (e : TypeId) (size : Nat) : Grx X w B e size (.slice none 0 0) 0 [] := ⟨rfl, [], World.ownsRow_nil w B e size, rfl⟩
theorem Grx.made {X : Nat → Prop} {w : World} {B g : Nat} {e : TypeId} {size : Nat} (hr : Row w g e #[]) (hB : B ≤ g) : Grx X w B e size (.slice (some ⟨g, 0, none⟩) 0 0) 0 [] :=
  ⟨rfl, [], ⟨by simp, .inr ⟨g, 0, #[], rfl, hB, hr, Nat.le_refl _, by unfold maxLen; omega, by simp, by simp⟩⟩, rfl⟩
theorem Grx.roomy {X : Nat → Prop} {w : World} {B g c : Nat} {e : TypeId} {size : Nat} {cs : Array Value} (hr : Row w g e cs) (hB : B ≤ g) (hc : c ≤ maxLen) (hs : cs.size = c * size) : Grx X w B e size (.slice (some ⟨g, 0, none⟩) 0 c) 0 [] :=
  ⟨rfl, [], ⟨by simp, .inr ⟨g, c, cs, rfl, hB, hr, Nat.zero_le _, hc, hs, by simp⟩⟩, rfl⟩
theorem Grx.own {X : Nat → Prop} {w : World} {B : Nat} {e : TypeId} {size : Nat} {v : Value} {n : Nat} {xs : List D} (h : Grx X w B e size v n xs) : ∀ g, v.ownBlock = some g → B ≤ g ∧ g < w.heap.size := by
  obtain ⟨h1, cs, h2, h4⟩ := h
  exact fun g hg => h2.lt g hg
theorem Grx.form {X : Nat → Prop} {w : World} {B : Nat} {e : TypeId} {size : Nat} {v : Value} {n : Nat} {xs : List D} (h : Grx X w B e size v n xs) : ∃ A c, v = .slice A n c := by
  obtain ⟨h1, cs, h2, h4⟩ := h
  rcases h2.2 with ⟨rfl, h0⟩ | ⟨g, cap, cur, rfl, _⟩
  · exact ⟨none, 0, by rw [h0]⟩
  · exact ⟨_, cap, rfl⟩
/-- what reads as data anywhere but in a row is kept where that row and new blocks alone turn -/
theorem Grx.keep {X : Nat → Prop} {w w' : World} {B : Nat} {e : TypeId} {size : Nat} {v : Value} {n : Nat} {xs : List D} (h : Grx X w B e size v n xs) (hs : w.heap.size ≤ w'.heap.size) (hk : ∀ b, b < w.heap.size → w'.heap[b]? = w.heap[b]?) : Grx X w' B e size v n xs := by
  have ho := h.own
  obtain ⟨h1, cs, h2, h4⟩ := h
  refine ⟨h1, cs, ⟨h2.1, ?_⟩, rdC_keep (fun b hb => ⟨⟨Nat.lt_of_lt_of_le hb.1 hs, hb.2⟩, hk b hb.1⟩) xs cs h4⟩
  rcases h2.2 with h | ⟨g, cap, cur, rfl, a1, a2, a3⟩
  · exact .inl h
  · exact .inr ⟨g, cap, cur, rfl, a1, (hk g (ho g rfl).2).trans a2, a3⟩
theorem Grx.below {X : Nat → Prop} {w w' : World} {B : Nat} {e : TypeId} {size : Nat} {v : Value} {n : Nat} {xs : List D} (h : Grx X w B e size v n xs) (hb : Below w.heap.size w w') : Grx X w' B e size v n xs := h.keep hb.size hb.block
theorem Grx.sl {X : Nat → Prop} {w : World} {B : Nat} {e : TypeId} {size : Nat} {v : Value} {n : Nat} {xs : List D} (h : Grx X w B e size v n xs) (hX : ∀ b, B ≤ b → X b) : ∃ A c, v = .slice A n c ∧ Sl w (fun b => b < w.heap.size ∧ X b) size A c xs := by
  have hlt := h.own
  obtain ⟨h1, cs, h2, h4⟩ := h
  rcases h2.2 with ⟨rfl, h⟩ | ⟨g, cap, cur, rfl, a1, a2, a3, a4, a5, a6⟩
  · have : xs = [] := List.eq_nil_of_length_eq_zero (by omega)
    subst this
    exact ⟨none, 0, by rw [h], Sl.nil (by unfold maxLen; omega)⟩
  · refine ⟨_, cap, rfl, by omega, a4, .inr ⟨g, 0, rfl, ⟨(hlt g rfl).2, hX g (hlt g rfl).1⟩, ?_⟩⟩
    refine rdC_row xs cs 0 (fun j v hj => ?_) (rdC_keep (fun b hb => ⟨⟨hb.1, hb.2.2⟩, rfl⟩) xs cs h4)
    rw [Nat.zero_add, Row.cell (t := e) (cs := cur) a2]
    rw [← a6, List.getElem?_take] at hj
    split at hj
    · simpa using hj
    · cases hj

/-- the step itself -/
theorem Grx.step {P : Program} {X : Nat → Prop} (w : World) (t ty e : TypeId) (z : Value) (size bytes : Nat) (ht : P.underlying t = some (.slice e)) (hi : (P.info? e).map (fun i => (i.zero, i.size, i.bytes)) = some (some z, size, bytes)) (hzs : z.cells.size = size) (hsz : 0 < size)
    (B : Nat) (v : Value) (n : Nat) (xs : List D) (hg : Grx X w B e size v n xs) (A : Option Addr) (c m : Nat) (ys : List D) (hm : ys.length = m) (hy : Sl w (fun b => b < w.heap.size ∧ v.ownBlock ≠ some b ∧ X b) size A c ys) (hB : B ≤ w.heap.size)
    (hn : n + m ≤ maxLen) (hbt : (n + m) * bytes ≤ 140737488355328) :
    ∃ A' c' w', (Builtin.append_ #[t, t] ty #[v, .slice A m c]).run P w = .ok (.slice A' (n + m) c') w' ∧ Grx X w' B e size (.slice A' (n + m) c') (n + m) (xs ++ ys) ∧ Gr w w' v (.slice A' (n + m) c') := by
  obtain ⟨i, i1, i2, i3, i4⟩ := info_parts hi
  have ho := hg.own
  obtain ⟨hxs, cells, g2, g4⟩ := id hg
  obtain ⟨es, k1, k2, k3⟩ : ∃ es, rdC w size (fun b => b < w.heap.size ∧ v.ownBlock ≠ some b ∧ X b) ys es ∧ (A = none → m = 0) ∧ ∀ a, A = some a → ∀ j u, es[j]? = some u → w.cell? (a.add j) = some u := by
    rcases hy.2.2 with rfl | ⟨b, off, rfl, hS, hr⟩
    · exact ⟨[], rfl, fun _ => by simpa using hm.symm, fun _ _ j u h => by simp at h⟩
    · obtain ⟨es, h1, h2⟩ := rdR_cells ys off hr
      refine ⟨es, h1, fun h => by simp at h, fun a ha j u hj => ?_⟩
      obtain rfl : ⟨b, off, none⟩ = a := by simpa using ha
      have hadd : (⟨b, off, none⟩ : Addr).add j = ⟨b, off + j, none⟩ := by unfold Addr.add; split <;> simp_all
      rw [hadd]; exact h2 j u hj
  obtain ⟨v', w', hr, hown, hgr, hat⟩ := run_append_many (P := P) w B t ty e i z size bytes ht i1 i2 i3 i4 hzs hsz v n cells g2 A m c es k2 (by rw [rdC_length _ _ k1, hm]) k3 (rdC_one _ _ k1) hn hbt hB
  have hfm : ∃ A' c', v' = .slice A' (n + m) c' := by
    rcases hown.2 with ⟨rfl, h0⟩ | ⟨g, cap, cur, rfl, _⟩
    · exact ⟨none, 0, by rw [h0]⟩
    · exact ⟨_, cap, rfl⟩
  obtain ⟨A', c', rfl⟩ := hfm
  have hG : Gr w w' v (.slice A' (n + m) c') := ⟨hgr, hat.imp id fun h => ⟨_, h, Nat.le_refl _⟩⟩
  refine ⟨A', c', w', hr, ⟨by simp [hxs, hm], cells ++ es, hown, rdC_keep (fun b hb => ⟨⟨Nat.lt_of_lt_of_le hb.1 hgr.size, hG.ne hb.2.1 hb.1, hb.2.2⟩, hgr.block b hb.1 fun e => hb.2.1 e.symm⟩) _ _ (rdC_append k1 _ _ g4)⟩, hG⟩

theorem wp_append_X {P : Program} {X : Nat → Prop} {o : Oper} {a : Act} {K : Act → World → Prop} {Q : Exit → Act → World → Prop} (w : World) (s x : Operand) (t : TypeId) (ho : o.op = .call { callee := .builtin .append, args := #[s, x], argTypes := #[t, t] })
    (e : TypeId) (z : Value) (size bytes : Nat) (ht : P.underlying t = some (.slice e)) (hi : (P.info? e).map (fun i => (i.zero, i.size, i.bytes)) = some (some z, size, bytes)) (hzs : z.cells.size = size) (hsz : 0 < size)
    (B : Nat) (v : Value) (n : Nat) (xs : List D) (hg : Grx X w B e size v n xs) (A : Option Addr) (c m : Nat) (ys : List D) (hm : ys.length = m) (hy : Sl w (fun b => b < w.heap.size ∧ v.ownBlock ≠ some b ∧ X b) size A c ys) (hB : B ≤ w.heap.size)
    (hn : n + m ≤ maxLen) (hbt : (n + m) * bytes ≤ 140737488355328) (hs : a.eval s = v) (hx : a.eval x = .slice A m c)
    (h : ∀ A' c' w', Grx X w' B e size (.slice A' (n + m) c') (n + m) (xs ++ ys) → Gr w w' v (.slice A' (n + m) c') → K (a.put o.dst (.slice A' (n + m) c')) w') : o.wp P a w K Q := by
  obtain ⟨A', c', w', hr, h2, h3⟩ := Grx.step (P := P) w t o.type e z size bytes ht hi hzs hsz B v n xs hg A c m ys hm hy hB hn hbt
  unfold Oper.wp execOp
  simp only [ho, resolve, invoke, builtin, Sem.run_bind, Sem.run_pure, Result.andThen_ok, List.map_toArray, List.map_cons, List.map_nil, hs, hx, hr]
  exact h A' c' w' h2 h3
theorem wpList_append_X {P : Program} {X : Nat → Prop} {ops : Array Oper} {rest : List Oper} {o : Oper} {a : Act} {Q : Exit → Act → World → Prop} (w : World) (hgd : o.guard = none) (s x : Operand) (t : TypeId) (ho : o.op = .call { callee := .builtin .append, args := #[s, x], argTypes := #[t, t] })
    (e : TypeId) (z : Value) (size bytes : Nat) (ht : P.underlying t = some (.slice e)) (hi : (P.info? e).map (fun i => (i.zero, i.size, i.bytes)) = some (some z, size, bytes)) (hzs : z.cells.size = size) (hsz : 0 < size)
    (B : Nat) (v : Value) (n : Nat) (xs : List D) (hg : Grx X w B e size v n xs) (A : Option Addr) (c m : Nat) (ys : List D) (hm : ys.length = m) (hy : Sl w (fun b => b < w.heap.size ∧ v.ownBlock ≠ some b ∧ X b) size A c ys) (hB : B ≤ w.heap.size)
    (hn : n + m ≤ maxLen) (hbt : (n + m) * bytes ≤ 140737488355328) (hs : a.eval s = v) (hx : a.eval x = .slice A m c)
    (h : ∀ A' c' w', Grx X w' B e size (.slice A' (n + m) c') (n + m) (xs ++ ys) → Gr w w' v (.slice A' (n + m) c') → wpList P ops Q rest (a.put o.dst (.slice A' (n + m) c')) w') : wpList P ops Q (o :: rest) a w :=
  wpList_plain hgd fun _ hK => wp_append_X w s x t ho e z size bytes ht hi hzs hsz B v n xs hg A c m ys hm hy hB hn hbt hs hx fun A' c' w' h2 h3 => hK _ _ (h A' c' w' h2 h3)
theorem step_append_X {P : Program} {X : Nat → Prop} {ops : Array Oper} {o : Oper} {a : Act} {K : Act → World → Prop} {Q : Exit → Act → World → Prop} {E : Prop} (w : World) (hgd : o.guard = none) (s x : Operand) (t : TypeId) (ho : o.op = .call { callee := .builtin .append, args := #[s, x], argTypes := #[t, t] })
    (e : TypeId) (z : Value) (size bytes : Nat) (ht : P.underlying t = some (.slice e)) (hi : (P.info? e).map (fun i => (i.zero, i.size, i.bytes)) = some (some z, size, bytes)) (hzs : z.cells.size = size) (hsz : 0 < size)
    (B : Nat) (v : Value) (n : Nat) (xs : List D) (hg : Grx X w B e size v n xs) (A : Option Addr) (c m : Nat) (ys : List D) (hm : ys.length = m) (hy : Sl w (fun b => b < w.heap.size ∧ v.ownBlock ≠ some b ∧ X b) size A c ys) (hB : B ≤ w.heap.size)
    (hn : n + m ≤ maxLen) (hbt : (n + m) * bytes ≤ 140737488355328) (hs : a.eval s = v) (hx : a.eval x = .slice A m c)
    (h : ∀ A' c' w', Grx X w' B e size (.slice A' (n + m) c') (n + m) (xs ++ ys) → Gr w w' v (.slice A' (n + m) c') → K (a.put o.dst (.slice A' (n + m) c')) w') : if Region.wanted o (yielded ops a.tmps) = true then Oper.wp P o a w K Q else E := by
  have hw : Region.wanted o (yielded ops a.tmps) = true := by simp [Region.wanted, hgd]
  rw [if_pos hw]
  exact wp_append_X w s x t ho e z size bytes ht hi hzs hsz B v n xs hg A c m ys hm hy hB hn hbt hs hx h
end Go.Proofs.Ytgbcdfeflgnogaa
