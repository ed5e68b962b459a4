/- A type is shown the same, however its vars are numbered (no program in sight). Conditions: none. -/
import Derived.Test.YtgbcdfeflgnogaaTyShown
import Derived.Test.YtgbcdfeflgnogaaHas
import Derived.Test.YtgbcdfeflgnogaaTyOk
namespace Go.Proofs.Ytgbcdfeflgnogaa
open Go.RowKit
set_option linter.unusedVariables false
set_option linter.unusedSimpArgs false

theorem okS_bare {m : Int} {s : ByteArray} {kids : List GTy} (h : (GTy.mk 2 m s kids).okS = true) : kids = [] := by
  rw [GTy.okS] at h
  have h1 := (Bool.and_eq_true _ _ ▸ h).1
  unfold tyOk1 at h1
  rw [if_neg (by decide), if_pos rfl] at h1
  simp only [Bool.and_eq_true, beq_iff_eq] at h1
  exact List.eq_nil_of_length_eq_zero h1.2.2
theorem okS_kids {op m : Int} {s : ByteArray} {kids : List GTy} (h : (GTy.mk op m s kids).okS = true) : GTy.okSL kids = true := by
  rw [GTy.okS, Bool.and_eq_true] at h
  exact h.2
theorem okSL_cons {t : GTy} {r : List GTy} (h : GTy.okSL (t :: r) = true) : t.okS = true ∧ GTy.okSL r = true := by
  rw [GTy.okSL, Bool.and_eq_true] at h
  exact h
mutual
theorem GTy.mem_met (n : Int) : ∀ (t : GTy) (xs : List Int), t.okS = true → (n ∈ t.met xs ↔ n ∈ xs ∨ t.has n = true)
  | .mk op m s kids, xs, h => by
    have hk := GTy.mem_metL n kids
    by_cases h2 : op = 2
    · subst h2
      have e := okS_bare h
      subst e
      simp only [GTy.met, GTy.metL, GTy.has, GTy.hasL, List.length_nil, true_and]
      by_cases ha : xs.any (fun x => x == m) = false
      · rw [if_pos ha]; simp only [List.mem_append, List.mem_singleton, beq_self_eq_true, Bool.true_and, Bool.or_false, beq_iff_eq]; exact or_congr Iff.rfl ⟨Eq.symm, Eq.symm⟩
      · rw [if_neg ha]
        have hb : xs.any (fun x => x == m) = true := by simpa using ha
        obtain ⟨x, hx, hxm⟩ := List.any_eq_true.1 hb
        have hxm2 : x = m := by simpa using hxm
        subst hxm2
        constructor
        · exact .inl
        · rintro (h1 | h1)
          · exact h1
          · have : x = n := by simpa using h1
            rw [← this]; exact hx
    · simp only [GTy.met, GTy.has]
      rw [if_neg (fun c => h2 c.1), hk xs (okS_kids h), beq_eq_false_iff_ne.2 h2]
      simp
theorem GTy.mem_metL (n : Int) : ∀ (l : List GTy) (xs : List Int), GTy.okSL l = true → (n ∈ GTy.metL l xs ↔ n ∈ xs ∨ GTy.hasL n l = true)
  | [], xs, _ => by simp [GTy.metL, GTy.hasL]
  | t :: r, xs, h => by
    have h1 := okSL_cons h
    simp only [GTy.metL, GTy.hasL]
    rw [GTy.mem_metL n r _ h1.2, GTy.mem_met n t _ h1.1]
    simp [or_assoc]
end

theorem any_ren {V : Int → Prop} {r : Int → Int} (hi : ∀ a b, V a → V b → r a = r b → a = b) {m : Int} (hm : V m) : ∀ xs : List Int, (∀ a, a ∈ xs → V a) → (xs.map r).any (fun x => x == r m) = xs.any (fun x => x == m)
  | [], _ => rfl
  | a :: xs, h => by
    have ih := any_ren hi hm xs (fun b hb => h b (by simp [hb]))
    simp only [List.map_cons, List.any_cons, ih]
    congr 1
    rw [Bool.eq_iff_iff, beq_iff_eq, beq_iff_eq]
    exact ⟨hi a m (h a (by simp)) hm, congrArg r⟩

mutual
theorem GTy.met_ren {V : Int → Prop} {r : Int → Int} {g : Int → Option GTy} (hi : ∀ a b, V a → V b → r a = r b → a = b) (hg : ∀ a, V a → g a = some (.mk 2 (r a) ⟨#[]⟩ [])) : ∀ (t : GTy) (xs : List Int), t.okS = true → (∀ a, t.has a = true → V a) → (∀ a, a ∈ xs → V a) → (t.sub g).met (xs.map r) = (t.met xs).map r
  | .mk op m s kids, xs, h, ht, hx => by
    have hk := GTy.met_renL hi hg kids
    by_cases h2 : op = 2
    · subst h2
      have e := okS_bare h
      subst e
      have hm : V m := ht m (by simp [GTy.has])
      have e2 : (GTy.mk 2 m s []).sub g = .mk 2 (r m) ⟨#[]⟩ [] := GTy.sub_some rfl rfl (hg m hm)
      rw [e2]
      simp only [GTy.met, GTy.metL, any_ren hi hm xs hx, List.length_nil, true_and]
      split <;> simp
    · have h3 : ¬ (op = 2 ∧ kids.length = 0) := fun c => h2 c.1
      simp only [GTy.sub]
      rw [if_neg h3]
      simp only [GTy.met]
      rw [if_neg (fun c => h2 c.1), if_neg (fun c => h2 c.1)]
      exact hk xs (okS_kids h) (fun a ha => ht a (by simp [GTy.has, ha])) hx
theorem GTy.met_renL {V : Int → Prop} {r : Int → Int} {g : Int → Option GTy} (hi : ∀ a b, V a → V b → r a = r b → a = b) (hg : ∀ a, V a → g a = some (.mk 2 (r a) ⟨#[]⟩ [])) : ∀ (l : List GTy) (xs : List Int), GTy.okSL l = true → (∀ a, GTy.hasL a l = true → V a) → (∀ a, a ∈ xs → V a) → GTy.metL (GTy.subL g l) (xs.map r) = (GTy.metL l xs).map r
  | [], xs, _, _, _ => by simp only [GTy.subL, GTy.metL]
  | t :: l, xs, h, ht, hx => by
    have h1 := okSL_cons h
    have hta : ∀ a, t.has a = true → V a := fun a ha => ht a (by simp [GTy.hasL, ha])
    simp only [GTy.subL, GTy.metL]
    rw [GTy.met_ren hi hg t xs h1.1 hta hx]
    exact GTy.met_renL hi hg l (t.met xs) h1.2 (fun a ha => ht a (by simp [GTy.hasL, ha])) (fun a ha => by
      rcases (GTy.mem_met a t xs h1.1).1 ha with h5 | h5
      · exact hx a h5
      · exact hta a h5)
end

mutual
theorem GTy.sub_ren {V : Int → Prop} {r : Int → Int} {g h h' : Int → Option GTy} (hg : ∀ a, V a → g a = some (.mk 2 (r a) ⟨#[]⟩ [])) (hh : ∀ a, V a → h' (r a) = h a ∧ ∃ u, h a = some u) : ∀ (t : GTy), t.okS = true → (∀ a, t.has a = true → V a) → (t.sub g).sub h' = t.sub h
  | .mk op m s kids, ho, ht => by
    have hk := GTy.sub_renL hg hh kids
    by_cases h2 : op = 2
    · subst h2
      have e := okS_bare ho
      subst e
      have hm : V m := ht m (by simp [GTy.has])
      obtain ⟨e1, u, e3⟩ := hh m hm
      have e2 : (GTy.mk 2 m s []).sub g = .mk 2 (r m) ⟨#[]⟩ [] := GTy.sub_some rfl rfl (hg m hm)
      rw [e2, GTy.sub_some rfl rfl (show h' (GTy.mk 2 (r m) ⟨#[]⟩ []).n = some u from e1.trans e3), GTy.sub_some rfl rfl (show h (GTy.mk 2 m s []).n = some u from e3)]
    · have h3 : ¬ (op = 2 ∧ kids.length = 0) := fun c => h2 c.1
      have h4 : ¬ (op = 2 ∧ (GTy.subL g kids).length = 0) := fun c => h2 c.1
      simp only [GTy.sub]
      rw [if_neg h3, if_neg h3]
      simp only [GTy.sub]
      rw [if_neg h4, hk (okS_kids ho) (fun a ha => ht a (by simp [GTy.has, ha]))]
theorem GTy.sub_renL {V : Int → Prop} {r : Int → Int} {g h h' : Int → Option GTy} (hg : ∀ a, V a → g a = some (.mk 2 (r a) ⟨#[]⟩ [])) (hh : ∀ a, V a → h' (r a) = h a ∧ ∃ u, h a = some u) : ∀ (l : List GTy), GTy.okSL l = true → (∀ a, GTy.hasL a l = true → V a) → GTy.subL h' (GTy.subL g l) = GTy.subL h l
  | [], _, _ => by simp only [GTy.subL]
  | t :: l, ho, ht => by
    have h1 := okSL_cons ho
    simp only [GTy.subL]
    rw [GTy.sub_ren hg hh t h1.1 (fun a ha => ht a (by simp [GTy.hasL, ha])), GTy.sub_renL hg hh l h1.2 (fun a ha => ht a (by simp [GTy.hasL, ha]))]
end

theorem inst_ren {V : Int → Prop} {r : Int → Int} (hi : ∀ a b, V a → V b → r a = r b → a = b) {a : Int} (ha : V a) : ∀ (xs : List Int) (ts : List GTy), (∀ b, b ∈ xs → V b) → instOf (xs.map r) ts (r a) = instOf xs ts a
  | [], _, _ => by simp [instOf]
  | x :: xs, [], _ => by simp [instOf]
  | x :: xs, t :: ts, h => by
    have ih := inst_ren hi ha xs ts (fun b hb => h b (by simp [hb]))
    simp only [List.map_cons, instOf, ih]
    have e : (r a == r x) = (a == x) := by
      rw [Bool.eq_iff_iff, beq_iff_eq, beq_iff_eq]
      exact ⟨hi a x ha (h x (by simp)), congrArg r⟩
    rw [e]
theorem inst_some {a : Int} : ∀ {xs : List Int} {ts : List GTy}, xs.length = ts.length → a ∈ xs → ∃ u, instOf xs ts a = some u
  | [], _, _, h => by simp at h
  | x :: xs, [], h, _ => by simp at h
  | x :: xs, t :: ts, h, ha => by
    simp only [instOf]
    cases e : (a == x)
    · have : a ∈ xs := by
        rcases List.mem_cons.1 ha with h1 | h1
        · rw [h1] at e; simp at e
        · exact h1
      obtain ⟨u, hu⟩ := inst_some (ts := ts) (by simpa using h) this
      exact ⟨u, by simpa using hu⟩
    · exact ⟨t, by simp⟩

/-- the law's plain half: other vars in the place of all of a type's, each another one -/
theorem shown_ren {r : Int → Int} {g : Int → Option GTy} (t : GTy) (ho : t.okS = true) (hi : ∀ a b, t.has a = true → t.has b = true → r a = r b → a = b) (hg : ∀ a, t.has a = true → g a = some (.mk 2 (r a) ⟨#[]⟩ [])) : shownT (t.sub g) = shownT t := by
  have hm := GTy.met_ren (V := fun a => t.has a = true) hi hg t [] ho (fun a h => h) (fun a h => by simp at h)
  have hv : ∀ a, a ∈ t.met [] ↔ t.has a = true := fun a => by rw [GTy.mem_met a t [] ho]; simp
  rw [List.map_nil] at hm
  unfold shownT
  rw [hm, List.length_map, GTy.sub_ren (V := fun a => t.has a = true) hg (h := instOf (t.met []) (varsT (t.met []).length)) (fun a ha => ⟨?_, ?_⟩) t ho (fun a h => h)]
  · exact inst_ren (V := fun a => t.has a = true) hi ha _ _ (fun b hb => (hv b).1 hb)
  · exact inst_some (by rw [varsT_length]) ((hv a).2 ha)

/-- vars as the law numbers them: the i-th one is 40 - i -/
def backT (n : Nat) : List GTy := (List.range n).map fun i : Nat => .mk 2 (40 - (i : Int)) ⟨#[]⟩ []
theorem backT_length (n : Nat) : (backT n).length = n := by simp [backT]
theorem backT_get {n j : Nat} (h : j < (backT n).length) : (backT n)[j] = .mk 2 (40 - (j : Int)) ⟨#[]⟩ [] := by simp [backT]
theorem backT_succ (n : Nat) : backT (n + 1) = backT n ++ [.mk 2 (40 - (n : Int)) ⟨#[]⟩ []] := by simp [backT, List.range_succ]
theorem backT_bulk : ∀ n : Nat, bulkL GTy.bulk (backT n) = n
  | 0 => rfl
  | n + 1 => by rw [backT_succ, bulkL_snoc, backT_bulk n]; rfl
theorem idx_cons {α : Type} (p : α → Bool) (x : α) (r : List α) : idxI p (x :: r) = if p x = true then 0 else if idxI p r < 0 then -1 else idxI p r + 1 := rfl
theorem idx_tail {a x : Int} {r : List Int} (h : a ∈ x :: r) (e : ¬ (a == x) = true) : a ∈ r := by
  rcases List.mem_cons.1 h with h1 | h1
  · exact absurd (beq_iff_eq.2 h1) e
  · exact h1
theorem idx_mem {a : Int} : ∀ {l : List Int}, a ∈ l → 0 ≤ idxI (fun x : Int => a == x) l
  | [], h => by simp at h
  | x :: r, h => by
    rw [idx_cons]
    by_cases e : (a == x) = true
    · rw [if_pos e]; omega
    · have := idx_mem (idx_tail h e)
      rw [if_neg e, if_neg (by omega)]; omega
theorem idx_one {a b : Int} : ∀ {l : List Int}, a ∈ l → b ∈ l → idxI (fun x : Int => a == x) l = idxI (fun x : Int => b == x) l → a = b
  | [], h, _, _ => by simp at h
  | x :: r, ha, hb, h => by
    rw [idx_cons, idx_cons] at h
    by_cases e : (a == x) = true <;> by_cases e2 : (b == x) = true
    · rw [beq_iff_eq] at e e2; rw [e, e2]
    · have p2 := idx_mem (idx_tail hb e2)
      rw [if_pos e, if_neg e2, if_neg (by omega)] at h
      omega
    · have p1 := idx_mem (idx_tail ha e)
      rw [if_neg e, if_pos e2, if_neg (by omega)] at h
      omega
    · have p1 := idx_mem (idx_tail ha e)
      have p2 := idx_mem (idx_tail hb e2)
      rw [if_neg e, if_neg e2, if_neg (by omega), if_neg (by omega)] at h
      exact idx_one (idx_tail ha e) (idx_tail hb e2) (by omega)

/-- what the law asks -/
theorem shown_back (t : GTy) (ho : t.okS = true) : shownT (t.sub (bindOf (zipB (t.vs []) (backT (t.vs []).length)))) = shownT t := by
  have hg : (bindOf (zipB (t.vs []) (backT (t.vs []).length))) = instOf (t.vs []) (backT (t.vs []).length) := funext fun n => bindOf_zip n _ _
  rw [hg]
  refine shown_ren (r := fun a => 40 - idxI (fun x : Int => a == x) (t.vs [])) t ho (fun a b ha hb h => ?_) (fun a ha => ?_)
  · exact idx_one ((GTy.has_vs a t).1 ha) ((GTy.has_vs b t).1 hb) (by have h' : 40 - idxI (fun x : Int => a == x) (t.vs []) = 40 - idxI (fun x : Int => b == x) (t.vs []) := h; omega)
  · rcases instOf_idx (n := a) (vs := t.vs []) (ts := backT (t.vs []).length) (by rw [backT_length]) with ⟨j, h1, h2, e1, e2⟩ | ⟨e1, e2⟩
    · rw [e2, backT_get h1, e1]
    · have := idx_mem ((GTy.has_vs a t).1 ha)
      omega
end Go.Proofs.Ytgbcdfeflgnogaa
