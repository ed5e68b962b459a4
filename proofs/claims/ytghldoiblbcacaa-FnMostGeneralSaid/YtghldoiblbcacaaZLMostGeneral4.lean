/- Texts of the claim LMostGeneral in one: ShownP AppliedP UniP. Conditions: none but bounds on sizes. -/
import Derived.Test.YtghldoiblbcacaaZLMostGeneral3
import Derived.Test.YtghldoiblbcacaaZLMostGeneral1
import Derived.Test.YtghldoiblbcacaaZLMostGeneral2
/- A type is shown the same, however its vars are numbered (no program in sight). Conditions: none. -/
namespace Go.Proofs.Ytghldoiblbcacaa
open Go.RowKit
set_option linter.unusedVariables false
set_option linter.unusedSimpArgs false

theorem okS_bare {m : Int} {s : ByteArray} {kids : List GTy} (h : (GTy.mk 2 m s kids).okS = true) : kids = [] := by
  rw [GTy.okS] at h
  have h1 := (Bool.and_eq_true _ _ ▸ h).1
  unfold tyOk1 at h1
  rw [if_neg (by decide), if_pos rfl] at h1
  simp only [Bool.and_eq_true, beq_iff_eq] at h1
  exact List.eq_nil_of_length_eq_zero h1.2.2
theorem okS_kids {op m : Int} {s : ByteArray} {kids : List GTy} (h : (GTy.mk op m s kids).okS = true) : GTy.okSL kids = true := by
  rw [GTy.okS, Bool.and_eq_true] at h
  exact h.2
theorem okSL_cons {t : GTy} {r : List GTy} (h : GTy.okSL (t :: r) = true) : t.okS = true ∧ GTy.okSL r = true := by
  rw [GTy.okSL, Bool.and_eq_true] at h
  exact h
mutual
theorem GTy.mem_met (n : Int) : ∀ (t : GTy) (xs : List Int), t.okS = true → (n ∈ t.met xs ↔ n ∈ xs ∨ t.has n = true)
  | .mk op m s kids, xs, h => by
    have hk := GTy.mem_metL n kids
    by_cases h2 : op = 2
    · subst h2
      have e := okS_bare h
      subst e
      simp only [GTy.met, GTy.metL, GTy.has, GTy.hasL, List.length_nil, true_and]
      by_cases ha : xs.any (fun x => x == m) = false
      · rw [if_pos ha]; simp only [List.mem_append, List.mem_singleton, beq_self_eq_true, Bool.true_and, Bool.or_false, beq_iff_eq]; exact or_congr Iff.rfl ⟨Eq.symm, Eq.symm⟩
      · rw [if_neg ha]
        have hb : xs.any (fun x => x == m) = true := by simpa using ha
        obtain ⟨x, hx, hxm⟩ := List.any_eq_true.1 hb
        have hxm2 : x = m := by simpa using hxm
        subst hxm2
        constructor
        · exact .inl
        · rintro (h1 | h1)
          · exact h1
          · have : x = n := by simpa using h1
            rw [← this]; exact hx
    · simp only [GTy.met, GTy.has]
      rw [if_neg (fun c => h2 c.1), hk xs (okS_kids h), beq_eq_false_iff_ne.2 h2]
      simp
theorem GTy.mem_metL (n : Int) : ∀ (l : List GTy) (xs : List Int), GTy.okSL l = true → (n ∈ GTy.metL l xs ↔ n ∈ xs ∨ GTy.hasL n l = true)
  | [], xs, _ => by simp [GTy.metL, GTy.hasL]
  | t :: r, xs, h => by
    have h1 := okSL_cons h
    simp only [GTy.metL, GTy.hasL]
    rw [GTy.mem_metL n r _ h1.2, GTy.mem_met n t _ h1.1]
    simp [or_assoc]
end

theorem any_ren {V : Int → Prop} {r : Int → Int} (hi : ∀ a b, V a → V b → r a = r b → a = b) {m : Int} (hm : V m) : ∀ xs : List Int, (∀ a, a ∈ xs → V a) → (xs.map r).any (fun x => x == r m) = xs.any (fun x => x == m)
  | [], _ => rfl
  | a :: xs, h => by
    have ih := any_ren hi hm xs (fun b hb => h b (by simp [hb]))
    simp only [List.map_cons, List.any_cons, ih]
    congr 1
    rw [Bool.eq_iff_iff, beq_iff_eq, beq_iff_eq]
    exact ⟨hi a m (h a (by simp)) hm, congrArg r⟩

mutual
theorem GTy.met_ren {V : Int → Prop} {r : Int → Int} {g : Int → Option GTy} (hi : ∀ a b, V a → V b → r a = r b → a = b) (hg : ∀ a, V a → g a = some (.mk 2 (r a) ⟨#[]⟩ [])) : ∀ (t : GTy) (xs : List Int), t.okS = true → (∀ a, t.has a = true → V a) → (∀ a, a ∈ xs → V a) → (t.sub g).met (xs.map r) = (t.met xs).map r
  | .mk op m s kids, xs, h, ht, hx => by
    have hk := GTy.met_renL hi hg kids
    by_cases h2 : op = 2
    · subst h2
      have e := okS_bare h
      subst e
      have hm : V m := ht m (by simp [GTy.has])
      have e2 : (GTy.mk 2 m s []).sub g = .mk 2 (r m) ⟨#[]⟩ [] := GTy.sub_some rfl rfl (hg m hm)
      rw [e2]
      simp only [GTy.met, GTy.metL, any_ren hi hm xs hx, List.length_nil, true_and]
      split <;> simp
    · have h3 : ¬ (op = 2 ∧ kids.length = 0) := fun c => h2 c.1
      simp only [GTy.sub]
      rw [if_neg h3]
      simp only [GTy.met]
      rw [if_neg (fun c => h2 c.1), if_neg (fun c => h2 c.1)]
      exact hk xs (okS_kids h) (fun a ha => ht a (by simp [GTy.has, ha])) hx
theorem GTy.met_renL {V : Int → Prop} {r : Int → Int} {g : Int → Option GTy} (hi : ∀ a b, V a → V b → r a = r b → a = b) (hg : ∀ a, V a → g a = some (.mk 2 (r a) ⟨#[]⟩ [])) : ∀ (l : List GTy) (xs : List Int), GTy.okSL l = true → (∀ a, GTy.hasL a l = true → V a) → (∀ a, a ∈ xs → V a) → GTy.metL (GTy.subL g l) (xs.map r) = (GTy.metL l xs).map r
  | [], xs, _, _, _ => by simp only [GTy.subL, GTy.metL]
  | t :: l, xs, h, ht, hx => by
    have h1 := okSL_cons h
    have hta : ∀ a, t.has a = true → V a := fun a ha => ht a (by simp [GTy.hasL, ha])
    simp only [GTy.subL, GTy.metL]
    rw [GTy.met_ren hi hg t xs h1.1 hta hx]
    exact GTy.met_renL hi hg l (t.met xs) h1.2 (fun a ha => ht a (by simp [GTy.hasL, ha])) (fun a ha => by
      rcases (GTy.mem_met a t xs h1.1).1 ha with h5 | h5
      · exact hx a h5
      · exact hta a h5)
end

mutual
theorem GTy.sub_ren {V : Int → Prop} {r : Int → Int} {g h h' : Int → Option GTy} (hg : ∀ a, V a → g a = some (.mk 2 (r a) ⟨#[]⟩ [])) (hh : ∀ a, V a → h' (r a) = h a ∧ ∃ u, h a = some u) : ∀ (t : GTy), t.okS = true → (∀ a, t.has a = true → V a) → (t.sub g).sub h' = t.sub h
  | .mk op m s kids, ho, ht => by
    have hk := GTy.sub_renL hg hh kids
    by_cases h2 : op = 2
    · subst h2
      have e := okS_bare ho
      subst e
      have hm : V m := ht m (by simp [GTy.has])
      obtain ⟨e1, u, e3⟩ := hh m hm
      have e2 : (GTy.mk 2 m s []).sub g = .mk 2 (r m) ⟨#[]⟩ [] := GTy.sub_some rfl rfl (hg m hm)
      rw [e2, GTy.sub_some rfl rfl (show h' (GTy.mk 2 (r m) ⟨#[]⟩ []).n = some u from e1.trans e3), GTy.sub_some rfl rfl (show h (GTy.mk 2 m s []).n = some u from e3)]
    · have h3 : ¬ (op = 2 ∧ kids.length = 0) := fun c => h2 c.1
      have h4 : ¬ (op = 2 ∧ (GTy.subL g kids).length = 0) := fun c => h2 c.1
      simp only [GTy.sub]
      rw [if_neg h3, if_neg h3]
      simp only [GTy.sub]
      rw [if_neg h4, hk (okS_kids ho) (fun a ha => ht a (by simp [GTy.has, ha]))]
theorem GTy.sub_renL {V : Int → Prop} {r : Int → Int} {g h h' : Int → Option GTy} (hg : ∀ a, V a → g a = some (.mk 2 (r a) ⟨#[]⟩ [])) (hh : ∀ a, V a → h' (r a) = h a ∧ ∃ u, h a = some u) : ∀ (l : List GTy), GTy.okSL l = true → (∀ a, GTy.hasL a l = true → V a) → GTy.subL h' (GTy.subL g l) = GTy.subL h l
  | [], _, _ => by simp only [GTy.subL]
  | t :: l, ho, ht => by
    have h1 := okSL_cons ho
    simp only [GTy.subL]
    rw [GTy.sub_ren hg hh t h1.1 (fun a ha => ht a (by simp [GTy.hasL, ha])), GTy.sub_renL hg hh l h1.2 (fun a ha => ht a (by simp [GTy.hasL, ha]))]
end

theorem inst_ren {V : Int → Prop} {r : Int → Int} (hi : ∀ a b, V a → V b → r a = r b → a = b) {a : Int} (ha : V a) : ∀ (xs : List Int) (ts : List GTy), (∀ b, b ∈ xs → V b) → instOf (xs.map r) ts (r a) = instOf xs ts a
  | [], _, _ => by simp [instOf]
  | x :: xs, [], _ => by simp [instOf]
  | x :: xs, t :: ts, h => by
    have ih := inst_ren hi ha xs ts (fun b hb => h b (by simp [hb]))
    simp only [List.map_cons, instOf, ih]
    have e : (r a == r x) = (a == x) := by
      rw [Bool.eq_iff_iff, beq_iff_eq, beq_iff_eq]
      exact ⟨hi a x ha (h x (by simp)), congrArg r⟩
    rw [e]
theorem inst_some {a : Int} : ∀ {xs : List Int} {ts : List GTy}, xs.length = ts.length → a ∈ xs → ∃ u, instOf xs ts a = some u
  | [], _, _, h => by simp at h
  | x :: xs, [], h, _ => by simp at h
  | x :: xs, t :: ts, h, ha => by
    simp only [instOf]
    cases e : (a == x)
    · have : a ∈ xs := by
        rcases List.mem_cons.1 ha with h1 | h1
        · rw [h1] at e; simp at e
        · exact h1
      obtain ⟨u, hu⟩ := inst_some (ts := ts) (by simpa using h) this
      exact ⟨u, by simpa using hu⟩
    · exact ⟨t, by simp⟩

/-- the law's plain half: other vars in the place of all of a type's, each another one -/
theorem shown_ren {r : Int → Int} {g : Int → Option GTy} (t : GTy) (ho : t.okS = true) (hi : ∀ a b, t.has a = true → t.has b = true → r a = r b → a = b) (hg : ∀ a, t.has a = true → g a = some (.mk 2 (r a) ⟨#[]⟩ [])) : shownT (t.sub g) = shownT t := by
  have hm := GTy.met_ren (V := fun a => t.has a = true) hi hg t [] ho (fun a h => h) (fun a h => by simp at h)
  have hv : ∀ a, a ∈ t.met [] ↔ t.has a = true := fun a => by rw [GTy.mem_met a t [] ho]; simp
  rw [List.map_nil] at hm
  unfold shownT
  rw [hm, List.length_map, GTy.sub_ren (V := fun a => t.has a = true) hg (h := instOf (t.met []) (varsT (t.met []).length)) (fun a ha => ⟨?_, ?_⟩) t ho (fun a h => h)]
  · exact inst_ren (V := fun a => t.has a = true) hi ha _ _ (fun b hb => (hv b).1 hb)
  · exact inst_some (by rw [varsT_length]) ((hv a).2 ha)

/-- vars as the law numbers them: the i-th one is 40 - i -/
def backT (n : Nat) : List GTy := (List.range n).map fun i : Nat => .mk 2 (40 - (i : Int)) ⟨#[]⟩ []
theorem backT_length (n : Nat) : (backT n).length = n := by simp [backT]
theorem backT_get {n j : Nat} (h : j < (backT n).length) : (backT n)[j] = .mk 2 (40 - (j : Int)) ⟨#[]⟩ [] := by simp [backT]
theorem backT_succ (n : Nat) : backT (n + 1) = backT n ++ [.mk 2 (40 - (n : Int)) ⟨#[]⟩ []] := by simp [backT, List.range_succ]
theorem backT_bulk : ∀ n : Nat, bulkL GTy.bulk (backT n) = n
  | 0 => rfl
  | n + 1 => by rw [backT_succ, bulkL_snoc, backT_bulk n]; rfl
theorem idx_cons {α : Type} (p : α → Bool) (x : α) (r : List α) : idxI p (x :: r) = if p x = true then 0 else if idxI p r < 0 then -1 else idxI p r + 1 := rfl
theorem idx_tail {a x : Int} {r : List Int} (h : a ∈ x :: r) (e : ¬ (a == x) = true) : a ∈ r := by
  rcases List.mem_cons.1 h with h1 | h1
  · exact absurd (beq_iff_eq.2 h1) e
  · exact h1
theorem idx_mem {a : Int} : ∀ {l : List Int}, a ∈ l → 0 ≤ idxI (fun x : Int => a == x) l
  | [], h => by simp at h
  | x :: r, h => by
    rw [idx_cons]
    by_cases e : (a == x) = true
    · rw [if_pos e]; omega
    · have := idx_mem (idx_tail h e)
      rw [if_neg e, if_neg (by omega)]; omega
theorem idx_one {a b : Int} : ∀ {l : List Int}, a ∈ l → b ∈ l → idxI (fun x : Int => a == x) l = idxI (fun x : Int => b == x) l → a = b
  | [], h, _, _ => by simp at h
  | x :: r, ha, hb, h => by
    rw [idx_cons, idx_cons] at h
    by_cases e : (a == x) = true <;> by_cases e2 : (b == x) = true
    · rw [beq_iff_eq] at e e2; rw [e, e2]
    · have p2 := idx_mem (idx_tail hb e2)
      rw [if_pos e, if_neg e2, if_neg (by omega)] at h
      omega
    · have p1 := idx_mem (idx_tail ha e)
      rw [if_neg e, if_pos e2, if_neg (by omega)] at h
      omega
    · have p1 := idx_mem (idx_tail ha e)
      have p2 := idx_mem (idx_tail hb e2)
      rw [if_neg e, if_neg e2, if_neg (by omega), if_neg (by omega)] at h
      exact idx_one (idx_tail ha e) (idx_tail hb e2) (by omega)

/-- what the law asks -/
theorem shown_back (t : GTy) (ho : t.okS = true) : shownT (t.sub (bindOf (zipB (t.vs []) (backT (t.vs []).length)))) = shownT t := by
  have hg : (bindOf (zipB (t.vs []) (backT (t.vs []).length))) = instOf (t.vs []) (backT (t.vs []).length) := funext fun n => bindOf_zip n _ _
  rw [hg]
  refine shown_ren (r := fun a => 40 - idxI (fun x : Int => a == x) (t.vs [])) t ho (fun a b ha hb h => ?_) (fun a ha => ?_)
  · exact idx_one ((GTy.has_vs a t).1 ha) ((GTy.has_vs b t).1 hb) (by have h' : 40 - idxI (fun x : Int => a == x) (t.vs []) = 40 - idxI (fun x : Int => b == x) (t.vs []) := h; omega)
  · rcases instOf_idx (n := a) (vs := t.vs []) (ts := backT (t.vs []).length) (by rw [backT_length]) with ⟨j, h1, h2, e1, e2⟩ | ⟨e1, e2⟩
    · rw [e2, backT_get h1, e1]
    · have := idx_mem ((GTy.has_vs a t).1 ha)
      omega
end Go.Proofs.Ytghldoiblbcacaa

/- What a right substitution makes of a type it makes again (no program in sight). Conditions: none. -/
namespace Go.Proofs.Ytghldoiblbcacaa
open Go.RowKit
set_option linter.unusedVariables false
set_option linter.unusedSimpArgs false

theorem has_kid {n : Int} {t x : GTy} (hx : x ∈ t.kids) (h : x.has n = true) : t.has n = true := by
  rw [t.has_eq, GTy.hasL_any, List.any_eq_true.2 ⟨x, hx, h⟩, Bool.or_true]
mutual
/-- what stands for nothing that is in a type leaves it -/
theorem GTy.sub_id {f : Int → Option GTy} : ∀ t : GTy, (∀ n, t.has n = true → f n = none) → t.sub f = t
  | .mk op m s kids, h => by
    have hk := GTy.sub_idL (f := f) kids (fun n hn => h n (by rw [GTy.has, hn, Bool.or_true]))
    by_cases h2 : op = 2 ∧ kids.length = 0
    · have hm : f m = none := h m (by rw [GTy.has, h2.1]; simp)
      simp only [GTy.sub]
      rw [if_pos h2, hm]
      simp only [hk]
    · simp only [GTy.sub]
      rw [if_neg h2]
      simp only [hk]
theorem GTy.sub_idL {f : Int → Option GTy} : ∀ l : List GTy, (∀ n, GTy.hasL n l = true → f n = none) → GTy.subL f l = l
  | [], _ => by simp only [GTy.subL]
  | t :: r, h => by
    simp only [GTy.subL]
    rw [GTy.sub_id t (fun n hn => h n (by rw [GTy.hasL, hn, Bool.true_or])), GTy.sub_idL r (fun n hn => h n (by rw [GTy.hasL, hn, Bool.or_true]))]
end
mutual
/-- a var that stands for something, and is in nothing that stands for something, is in nothing that is made -/
theorem GTy.sub_has {f : Int → Option GTy} {n : Int} (hf : ∀ m u, f m = some u → u.has n = false) (hn : ∃ u, f n = some u) : ∀ t : GTy, t.okS = true → (t.sub f).has n = false
  | .mk op m s kids, ho => by
    have hk := GTy.sub_hasL hf hn kids (okS_kids ho)
    by_cases h2 : op = 2
    · subst h2
      have e := okS_bare ho
      subst e
      cases hm : f m with
      | some u => rw [GTy.sub_some rfl rfl (show f (GTy.mk 2 m s []).n = some u from hm)]; exact hf m u hm
      | none =>
        rw [GTy.sub_none (.inr (show f (GTy.mk 2 m s []).n = none from hm)), GTy.has_eq]
        obtain ⟨u, hu⟩ := hn
        have hmn : (m == n) = false := by rw [beq_eq_false_iff_ne]; intro e; rw [e, hu] at hm; cases hm
        simp [GTy.op, GTy.n, GTy.kids, GTy.hasL, hmn]
    · have h3 : ¬ (op = 2 ∧ kids.length = 0) := fun c => h2 c.1
      simp only [GTy.sub]
      rw [if_neg h3]
      simp only [GTy.has]
      rw [hk, beq_eq_false_iff_ne.2 h2]; rfl
theorem GTy.sub_hasL {f : Int → Option GTy} {n : Int} (hf : ∀ m u, f m = some u → u.has n = false) (hn : ∃ u, f n = some u) : ∀ l : List GTy, GTy.okSL l = true → GTy.hasL n (GTy.subL f l) = false
  | [], _ => by simp only [GTy.subL, GTy.hasL]
  | t :: r, ho => by
    have h1 := okSL_cons ho
    simp only [GTy.subL, GTy.hasL]
    rw [GTy.sub_has hf hn t h1.1, GTy.sub_hasL hf hn r h1.2]; rfl
end
mutual
theorem GTy.okS_sub {f : Int → Option GTy} (hf : ∀ m u, f m = some u → u.okS = true) : ∀ t : GTy, t.okS = true → (t.sub f).okS = true
  | .mk op m s kids, ho => by
    have hk := GTy.okS_subL hf kids (okS_kids ho)
    by_cases h2 : op = 2
    · subst h2
      have e := okS_bare ho
      subst e
      cases hm : f m with
      | some u => rw [GTy.sub_some rfl rfl (show f (GTy.mk 2 m s []).n = some u from hm)]; exact hf m u hm
      | none => rw [GTy.sub_none (.inr (show f (GTy.mk 2 m s []).n = none from hm))]; exact ho
    · have h3 : ¬ (op = 2 ∧ kids.length = 0) := fun c => h2 c.1
      simp only [GTy.sub]
      rw [if_neg h3]
      simp only [GTy.okS] at ho ⊢
      rw [Bool.and_eq_true] at ho
      rw [hk, GTy.subL_map, List.length_map, ho.1]; rfl
theorem GTy.okS_subL {f : Int → Option GTy} (hf : ∀ m u, f m = some u → u.okS = true) : ∀ l : List GTy, GTy.okSL l = true → GTy.okSL (GTy.subL f l) = true
  | [], _ => by simp only [GTy.subL, GTy.okSL]
  | t :: r, ho => by
    have h1 := okSL_cons ho
    simp only [GTy.subL, GTy.okSL]
    rw [GTy.okS_sub hf t h1.1, GTy.okS_subL hf r h1.2]; rfl
end
theorem bindOf_some {l : List GBind} {n : Int} {u : GTy} (h : bindOf l n = some u) : ∃ b, b ∈ l ∧ b.n = n ∧ b.ty = u := by
  unfold bindOf at h
  cases hc : l.find? (fun b => b.n == n) with
  | none => rw [hc] at h; cases h
  | some b =>
    rw [hc] at h
    cases h
    exact ⟨b, List.mem_of_find?_eq_some hc, by simpa using List.find?_some hc, rfl⟩
theorem bindOf_mem {l : List GBind} {b : GBind} (h : b ∈ l) : ∃ u, bindOf l b.n = some u := by
  unfold bindOf
  cases hc : l.find? (fun x => x.n == b.n) with
  | none => have := List.find?_eq_none.1 hc b h; simp at this
  | some x => exact ⟨x.ty, rfl⟩
/-- a right substitution: no type of it has a var that stands for something; its types are right -/
theorem subOk_parts {l : List GBind} (h : subOkV l = true) : (∀ b, b ∈ l → ∀ x, x ∈ l → b.ty.has x.n = false) ∧ ∀ b, b ∈ l → b.ty.okS = true := by
  have h1 := of_decide_eq_true h
  refine ⟨fun b hb x hx => ?_, fun b hb => ?_⟩ <;> obtain ⟨j, hj, rfl⟩ := List.getElem_of_mem hb <;> have h2 := h1 j hj <;> unfold subBad at h2 <;> simp only [Bool.or_eq_false_iff] at h2
  · exact List.any_eq_false.1 h2.2 x hx |> (by simpa using ·)
  · have h3 := h2.1.2
    simp only [Bool.not_eq_false'] at h3
    unfold GTy.ok at h3
    rw [Bool.and_eq_true] at h3
    exact h3.2
/-- what FnApplied asks -/
theorem applied {l : List GBind} {t : GTy} (h : subOkV l = true) (ho : t.okS = true) : (∀ b, b ∈ l → (t.sub (bindOf l)).has b.n = false) ∧ (t.sub (bindOf l)).sub (bindOf l) = t.sub (bindOf l) := by
  obtain ⟨h1, h2⟩ := subOk_parts h
  have hh : ∀ b, b ∈ l → (t.sub (bindOf l)).has b.n = false := fun b hb =>
    GTy.sub_has (fun m u hu => by obtain ⟨x, hx, -, rfl⟩ := bindOf_some hu; exact h1 x hx b hb) (bindOf_mem hb) t ho
  refine ⟨hh, GTy.sub_id _ (fun n hn => ?_)⟩
  cases hc : bindOf l n with
  | none => rfl
  | some u =>
    obtain ⟨x, hx, rfl, -⟩ := bindOf_some hc
    rw [hh x hx] at hn
    cases hn
end Go.Proofs.Ytghldoiblbcacaa

/- Substitutions that are made by Unify: what stays true of them (no program in sight). Conditions: none. -/
namespace Go.Proofs.Ytghldoiblbcacaa
open Go.RowKit
set_option linter.unusedVariables false
set_option linter.unusedSimpArgs false

mutual
/-- a var of what is made was there, or is in what stands for one -/
theorem GTy.has_sub {f : Int → Option GTy} {m : Int} : ∀ t : GTy, (t.sub f).has m = true → t.has m = true ∨ ∃ k u, f k = some u ∧ u.has m = true
  | .mk op n s kids, h => by
    have hk := GTy.has_subL (f := f) (m := m) kids
    by_cases h2 : op = 2 ∧ kids.length = 0
    · cases hf : f n with
      | some u =>
        simp only [GTy.sub] at h
        rw [if_pos h2, hf] at h
        exact .inr ⟨n, u, hf, h⟩
      | none =>
        simp only [GTy.sub] at h
        rw [if_pos h2, hf] at h
        simp only [GTy.has, Bool.or_eq_true] at h ⊢
        rcases h with h | h
        · exact .inl (.inl h)
        · rcases hk h with h3 | h3
          · exact .inl (.inr h3)
          · exact .inr h3
    · simp only [GTy.sub] at h
      rw [if_neg h2] at h
      simp only [GTy.has, Bool.or_eq_true] at h ⊢
      rcases h with h | h
      · exact .inl (.inl h)
      · rcases hk h with h3 | h3
        · exact .inl (.inr h3)
        · exact .inr h3
theorem GTy.has_subL {f : Int → Option GTy} {m : Int} : ∀ l : List GTy, GTy.hasL m (GTy.subL f l) = true → GTy.hasL m l = true ∨ ∃ k u, f k = some u ∧ u.has m = true
  | [], h => by simp only [GTy.subL, GTy.hasL] at h; cases h
  | t :: r, h => by
    simp only [GTy.subL, GTy.hasL, Bool.or_eq_true] at h ⊢
    rcases h with h | h
    · rcases GTy.has_sub t h with h3 | h3
      · exact .inl (.inl h3)
      · exact .inr h3
    · rcases GTy.has_subL r h with h3 | h3
      · exact .inl (.inr h3)
      · exact .inr h3
end

/-- one var stands for a type -/
def oneF (n : Int) (t : GTy) : Int → Option GTy := bindOf [⟨n, t⟩]
theorem oneF_some {n k : Int} {t u : GTy} (h : oneF n t k = some u) : k = n ∧ u = t := by
  obtain ⟨b, hb, h1, h2⟩ := bindOf_some h
  rw [List.mem_singleton] at hb
  subst hb
  exact ⟨h1.symm, h2.symm⟩
theorem oneF_self (n : Int) (t : GTy) : oneF n t n = some t := by
  obtain ⟨u, hu⟩ := bindOf_mem (l := [⟨n, t⟩]) (b := ⟨n, t⟩) (by simp)
  have e := (oneF_some (show oneF n t n = some u from hu)).2
  subst e
  exact hu

/-- what stays true of a substitution that Unify makes: vars are few, each stands for one type, none of them is in any -/
structure Uni (V : Int → Prop) (l : List GBind) : Prop where
  names : (l.map GBind.n).Nodup
  inV : ∀ b, b ∈ l → V b.n ∧ b.ty.okS = true ∧ ∀ m, b.ty.has m = true → V m
  free : ∀ b, b ∈ l → ∀ x, x ∈ l → b.ty.has x.n = false
theorem Uni.nil (V : Int → Prop) : Uni V [] := ⟨List.nodup_nil, fun b h => by simp at h, fun b h => by simp at h⟩
/-- a var that is made to stand for a type, in all -/
def putB (n : Int) (t : GTy) (l : List GBind) : List GBind := l.map (fun b => ⟨b.n, b.ty.sub (oneF n t)⟩) ++ [⟨n, t⟩]
theorem Uni.put {V : Int → Prop} {l : List GBind} (h : Uni V l) {n : Int} {t : GTy} (hn : V n) (hno : ∀ x, x ∈ l → x.n ≠ n) (ho : t.okS = true) (ht : ∀ m, t.has m = true → V m) (hf : ∀ x, x ∈ l → t.has x.n = false) (hs : t.has n = false) : Uni V (putB n t l) := by
  have hmap : ∀ b, b ∈ putB n t l → (∃ x, x ∈ l ∧ b = ⟨x.n, x.ty.sub (oneF n t)⟩) ∨ b = ⟨n, t⟩ := fun b hb => by
    rcases List.mem_append.1 hb with hb | hb
    · obtain ⟨x, hx, rfl⟩ := List.mem_map.1 hb
      exact .inl ⟨x, hx, rfl⟩
    · exact .inr (List.mem_singleton.1 hb)
  refine ⟨?_, fun b hb => ?_, fun b hb x hx => ?_⟩
  · have e : (putB n t l).map GBind.n = l.map GBind.n ++ [n] := by unfold putB; rw [List.map_append, List.map_map]; rfl
    rw [e, List.nodup_append]
    refine ⟨h.names, by simp, fun a ha b hb => ?_⟩
    obtain ⟨x, hx, rfl⟩ := List.mem_map.1 ha
    rw [List.mem_singleton] at hb
    rw [hb]; exact hno x hx
  · rcases hmap b hb with ⟨x, hx, rfl⟩ | rfl
    · refine ⟨(h.inV x hx).1, GTy.okS_sub (fun m u hu => by rw [(oneF_some hu).2]; exact ho) _ (h.inV x hx).2.1, fun m hm => ?_⟩
      rcases GTy.has_sub _ hm with h3 | ⟨k, u, hk, hu⟩
      · exact (h.inV x hx).2.2 m h3
      · rw [(oneF_some hk).2] at hu; exact ht m hu
    · exact ⟨hn, ho, ht⟩
  · have hx2 : x.n = n ∨ ∃ y, y ∈ l ∧ y.n = x.n := by
      rcases hmap x hx with ⟨y, hy, rfl⟩ | rfl
      · exact .inr ⟨y, hy, rfl⟩
      · exact .inl rfl
    rcases hmap b hb with ⟨z, hz, rfl⟩ | rfl
    · rcases hx2 with hx2 | ⟨y, hy, hx2⟩
      · rw [hx2]
        exact GTy.sub_has (fun m u hu => by rw [(oneF_some hu).2]; exact hs) ⟨t, oneF_self n t⟩ _ (h.inV z hz).2.1
      · rw [← hx2]
        cases hc : (GTy.sub (oneF n t) z.ty).has y.n
        · rfl
        · rcases GTy.has_sub _ hc with h3 | ⟨k, u, hk, hu⟩
          · rw [h.free z hz y hy] at h3; cases h3
          · rw [(oneF_some hk).2, hf y hy] at hu; cases hu
    · rcases hx2 with hx2 | ⟨y, hy, hx2⟩
      · rw [hx2]; exact hs
      · rw [← hx2]; exact hf y hy
/-- what a substitution makes of a type has no var that stands for something -/
theorem Uni.made {V : Int → Prop} {l : List GBind} (h : Uni V l) {t : GTy} (ho : t.okS = true) (ht : ∀ m, t.has m = true → V m) :
    (t.sub (bindOf l)).okS = true ∧ (∀ m, (t.sub (bindOf l)).has m = true → V m) ∧ ∀ x, x ∈ l → (t.sub (bindOf l)).has x.n = false := by
  refine ⟨GTy.okS_sub (fun m u hu => by obtain ⟨b, hb, -, rfl⟩ := bindOf_some hu; exact (h.inV b hb).2.1) t ho, fun m hm => ?_, fun x hx => ?_⟩
  · rcases GTy.has_sub t hm with h3 | ⟨k, u, hk, hu⟩
    · exact ht m h3
    · obtain ⟨b, hb, -, rfl⟩ := bindOf_some hk
      exact (h.inV b hb).2.2 m hu
  · exact GTy.sub_has (fun m u hu => by obtain ⟨b, hb, -, rfl⟩ := bindOf_some hu; exact h.free b hb x hx) (bindOf_mem hx) t ho
theorem nodup_few : ∀ (k : Nat) (l : List Int), l.Nodup → (∀ a, a ∈ l → 0 ≤ a ∧ a < (k : Int)) → l.length ≤ k
  | 0, l, _, h => by
    cases l with
    | nil => exact Nat.le_refl _
    | cons a r => have := h a (by simp); omega
  | k + 1, l, hn, h => by
    by_cases hk : (k : Int) ∈ l
    · have h1 := nodup_few k (l.erase (k : Int)) (hn.erase _) (fun a ha => by
        have h2 := (hn.mem_erase_iff).1 ha
        have h3 := h a h2.2
        have h4 := h2.1
        omega)
      rw [List.length_erase_of_mem hk] at h1
      omega
    · have h1 := nodup_few k l hn (fun a ha => by
        have h3 := h a ha
        have h4 : a ≠ (k : Int) := fun e => hk (e ▸ ha)
        omega)
      omega
/-- they are at most five, where vars are 0 to 4 -/
theorem Uni.few {l : List GBind} (h : Uni (fun n => 0 ≤ n ∧ n < 5) l) : l.length ≤ 5 := by
  have h1 := nodup_few 5 (l.map GBind.n) h.names (fun a ha => by
    obtain ⟨b, hb, rfl⟩ := List.mem_map.1 ha
    exact (h.inV b hb).1)
  simpa using h1
end Go.Proofs.Ytghldoiblbcacaa
