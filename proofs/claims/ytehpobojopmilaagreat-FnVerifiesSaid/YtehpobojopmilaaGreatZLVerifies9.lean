/- Texts of the claim LVerifies in one: Open. Conditions: none but bounds on sizes. -/
import Derived.Test.YtehpobojopmilaaGreatZLVerifies0
import Derived.ProofKit
import Derived.OpenShut
import Derived.Deep.Slices
import Derived.ChangeSame
namespace Go.Proofs.YtehpobojopmilaaGreat
set_option maxRecDepth 20000
set_option linter.unusedVariables false
set_option linter.unusedSimpArgs false
open Go.ChangeShapes Go.WideShapes Go.ChangeAt Go.RowKit Go.Deep
section
variable {H : Type} {enc : TypeId × Value → H} {P : Program} {w : World} {sp : Nat → Bool} {held : Bool}
theorem cell_addr {w : World} {a : Addr} {v : Value} (h : w.cell? a = some v) : a = ⟨a.block, a.off, none⟩ ∧ a.block < w.heap.size := by
 unfold World.cell? at h
 split at h
 ·
  rename_i c _ _ hb
  split at h
  · cases h
  ·
   rename_i hs
   refine ⟨?_, ?_⟩
   · cases a with
     | mk b o s => cases s with
      | none => rfl
      | some x => simp at hs
   · rcases Nat.lt_or_ge a.block w.heap.size with hlt | hge
     · exact hlt
     · rw [Array.getElem?_eq_none hge] at hb; cases hb
 · cases h
theorem open_sl {α : Type} {t e : TypeId} {fuel : Nat} {cs : List Value} {x : DataW H × List MemPlace} (size : Nat) (hsz : 0 < size) (ht : P.underlying t = some (.slice e)) (hc : P.cellsOf e = size) (toD : α → D)
 (hel : ∀ n cs x, n < fuel → DataW.trod enc P w 0 sp held n e cs = some x → ∃ a : α, (toD a).rd w (Lt w.heap.size) cs)
 (h : DataW.trod enc P w 0 sp held fuel t cs = some x) : ∃ l : List α, (D.sl size (l.map toD)).rd w (Lt w.heap.size) cs := by
 rcases DataW.trod_slice ht h with ⟨rfl, _⟩ | ⟨a, len, cap, elems, rest, n, rfl, rfl, _, _, hl, hm, hlen, hg, _, _⟩
 · exact ⟨[], D.rd_sl.2 ⟨none, 0, by simp, Sl.nil (by unfold maxLen; omega)⟩⟩
 ·
  rw [hc] at hg
  have hex : ∀ i, i < len → ∃ (u : α) (cs' : List Value), cs'.length = size ∧ (∀ j, j < size → w.cell? ((a.add (i * size)).add j) = cs'[j]?) ∧ (toD u).rd w (Lt w.heap.size) cs' := by
   intro i hi
   have h1 := hg i hi
   rw [List.getElem?_eq_getElem (by omega)] at h1
   obtain ⟨cs', h2, h3⟩ := Option.bind_eq_some_iff.1 h1
   obtain ⟨_, h4, h5⟩ := World.cells?_some h2
   obtain ⟨u, hu⟩ := hel n cs' _ (by omega) h3
   exact ⟨u, cs', h4, h5, hu⟩
  -- the list
  have hlist : ∀ k, k ≤ len → ∃ l : List α, l.length = k ∧ ∀ i (hi : i < l.length), ∃ cs' : List Value, cs'.length = size ∧ (∀ j, j < size → w.cell? ((a.add (i * size)).add j) = cs'[j]?) ∧ (toD l[i]).rd w (Lt w.heap.size) cs' := by
   intro k
   induction k with
   | zero => intro _; exact ⟨[], rfl, fun i hi => by simp at hi⟩
   | succ k ih =>
    intro hk
    obtain ⟨l, h1, h2⟩ := ih (by omega)
    obtain ⟨u, cs', h3⟩ := hex k (by omega)
    refine ⟨l ++ [u], by simp [h1], fun i hi => ?_⟩
    rcases Nat.lt_or_ge i l.length with h | h
    · rw [List.getElem_append_left h]; exact h2 i h
    · have he : i = k := by simp at hi; omega
      subst he
      refine ⟨cs', h3.1, h3.2.1, ?_⟩
      have : (l ++ [u])[i] = u := by simp [h1]
      rw [this]; exact h3.2.2
  obtain ⟨l, h1, h2⟩ := hlist len (Nat.le_refl _)
  refine ⟨l, D.rd_sl.2 ⟨some a, cap, by simp [h1], by simp [h1]; omega, hm, ?_⟩⟩
  rcases Nat.eq_zero_or_pos len with h0 | h0
  · have hn : l = [] := List.eq_nil_of_length_eq_zero (by omega)
    exact .inl (by simp [hn])
  ·
   have haddr : a = ⟨a.block, a.off, none⟩ ∧ a.block < w.heap.size := by
    obtain ⟨cs', k1, k2, _⟩ := h2 0 (by omega)
    have k3 := k2 0 hsz
    rw [List.getElem?_eq_getElem (by omega)] at k3
    simp only [Nat.zero_mul, Addr.add, if_true] at k3
    exact cell_addr k3
   obtain ⟨ha, hlt⟩ := haddr
   refine .inr ⟨a.block, a.off, by rw [← ha], hlt, D.rdR_mk fun i hi => ?_⟩
   obtain ⟨cs', k1, k2, k3⟩ := h2 i (by simpa using hi)
   refine ⟨cs', k1, fun j v hj => ?_, by simpa using k3⟩
   have hjl : j < cs'.length := (List.getElem?_eq_some_iff.1 hj).1
   have k4 := k2 j (by omega)
   rw [hj] at k4
   rw [← k4]
   congr 1
   rw [ha]
   unfold Addr.add
   split <;> split <;> simp <;> omega
theorem trodAll_stays (hl : laidOutB P = true) {W W' : World} {sp' : Nat → Bool} : ∀ {ts : List TypeId} {vs : List Value} {ds : List (DataW H)} {ps : List MemPlace},
 (ts.all fun t => P.readableRec t && decide (t < P.types.size)) = true → DataW.TrodAll enc P W 0 (fun _ => true) true ts vs ds ps → Below W.heap.size W W' → (∀ x ∈ ps, x.block < W.heap.size) → (∀ p ∈ ps, sp' p.block = true) →
 DataW.TrodAll enc P W' 0 sp' true ts vs ds ps
 | [], vs, ds, ps, _, h, _, _, _ => by
  obtain ⟨rfl, rfl, rfl⟩ := trodAll_nil h
  exact trodAll_mk0
 | t :: ts, vs, ds, ps, hr, h, hb, hlt, hs => by
  obtain ⟨v, vs', d, ds', p, q, rfl, rfl, rfl, h1, h2⟩ := trodAll_cons h
  simp only [List.all_cons, Bool.and_eq_true, decide_eq_true_eq] at hr
  refine trodAll_cons_mk (WideElems.Trod_stays hl hr.1.1 hr.1.2 h1 (fun x hx => hb.same (hlt x (by simp [hx]))) (fun x hx => hs x (by simp [hx]))) (trodAll_stays hl ?_ h2 hb (fun x hx => hlt x (by simp [hx])) (fun x hx => hs x (by simp [hx])))
  simpa using hr.2
theorem post_of_below {f : Func} {s : ChangeSpec} {apart fresh handsOn again : Bool} {W W' : World} {args : Array Value} {v : Value} {ds gs : List (DataW H)} {before pa pv : List MemPlace}
 (hW : DataW.Whole enc P f.params.toList s.vars apart W args.toList ds gs before)
 (hres : ∀ (b : Nat) (sp : Nat → Bool) (hd : Bool), DataW.TrodAll enc P W' b sp hd f.resultTypes.toList (v.resultList f.resultTypes.size) (s.fn H (ds ++ gs)).results [])
 (hargs : ∀ sp : Nat → Bool, (∀ p ∈ before, sp p.block = true) → DataW.TrodAll enc P W' 0 sp true f.params.toList args.toList (s.fn H (ds ++ gs)).args pa)
 (hvars : ∀ sp : Nat → Bool, (∀ p ∈ before, sp p.block = true) → DataW.TrodVars enc P W' sp s.vars (s.fn H (ds ++ gs)).vars pv)
 (hps : before = pa ++ pv) (hb : Below W.heap.size W W')
 (hok : ∀ (j : Nat) (t : TypeId) (r : Value), f.resultTypes[j]? = some t → (v.resultList f.resultTypes.size)[j]? = some r → Value.okWide P W' .any 0 t r) :
 s.post enc P f apart fresh handsOn again W args v W' := by
 have hlt : ∀ p ∈ before, p.block < W.heap.size := fun p hp => hW.lt p hp
 have hold : ∀ p ∈ before, (fun b => decide (b < W.heap.size)) p.block = true := fun p hp => by simpa using hlt p hp
 refine ⟨ds, gs, before, [], pa, pv, hW, hres _ _ _, hargs _ hold, hvars _ hold, World.keptBut_mono (fun p hp => ⟨hp, ?_⟩) (hb.frame (· ∈ before)), fun _ => ?_⟩
 · rw [hps, List.mem_append] at hp
   exact Or.inr hp
 ·
  obtain ⟨_, _, _, _, _, hz, hn⟩ := hW
  refine ⟨hok, _, _, ([] ++ pa) ++ pv, ⟨[] ++ pa, pv, trodAll_append (hargs _ (fun _ _ => rfl)) (hres _ _ _), hvars _ (fun _ _ => rfl), rfl, ?_, ?_⟩, ?_⟩
  · intro b off hp
    have hin : MemPlace.cell b off ∈ before := by rw [hps]; simpa using hp
    rw [hb.frozen (hlt _ hin)]
    exact hz b off hin
  · intro ha
    have := hn ha
    rw [hps] at this
    simpa using this
  · intro p hp _
    rw [hps]
    simpa using hp
end
end Go.Proofs.YtehpobojopmilaaGreat
