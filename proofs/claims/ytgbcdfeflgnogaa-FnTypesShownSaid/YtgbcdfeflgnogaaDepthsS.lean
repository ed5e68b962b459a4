/- Depths of the reference: its state in memory, l15Go, l15One. Conditions: none but what a Go value may be. -/
import Derived.Test.YtgbcdfeflgnogaaDepths
import Derived.Test.YtgbcdfeflgnogaaAppM
import Derived.BigQuiet
import Derived.IntWalk
import Derived.OwnWalk
import Derived.Deep.RegionLaw
namespace Go.Proofs.Ytgbcdfeflgnogaa
open Go.RowKit
set_option linter.unusedVariables false
set_option linter.unusedSimpArgs false
set_option maxHeartbeats 2000000

theorem GI.keep {w w' : World} {B : Nat} {e : TypeId} {v : Value} {n : Nat} {l : List Int} (h : Gre w B e 1 v n (l.map (D.num .i64))) (hk : ∀ b, v.ownBlock = some b → w'.heap[b]? = w.heap[b]?) : Gre w' B e 1 v n (l.map (D.num .i64)) := by
  obtain ⟨h1, cs, h2, h4⟩ := h
  refine ⟨h1, cs, ⟨h2.1, ?_⟩, rdC_num l cs h4⟩
  rcases h2.2 with h | ⟨g, cap, cur, rfl, a1, a2, a3⟩
  · exact .inl h
  · exact .inr ⟨g, cap, cur, rfl, a1, (hk g rfl).trans a2, a3⟩
theorem GI.setNe {w : World} {B : Nat} {e : TypeId} {v : Value} {n : Nat} {l : List Int} (h : Gre w B e 1 v n (l.map (D.num .i64))) {p : Addr} (hp : v.ownBlock ≠ some p.block) (u : Value) : Gre (w.setCell p u) B e 1 v n (l.map (D.num .i64)) :=
  GI.keep h fun b hb => Below.heap_setCell w p u b fun e => hp (by rw [hb, e])
theorem GI.grow {w w' : World} {B : Nat} {e : TypeId} {v v2 v2' : Value} {n : Nat} {l : List Int} (h : Gre w B e 1 v n (l.map (D.num .i64))) (hg : Gr w w' v2 v2') (hne : ∀ b, v.ownBlock = some b → v2.ownBlock ≠ some b) : Gre w' B e 1 v n (l.map (D.num .i64)) :=
  GI.keep h fun b hb => hg.grow.block b (h.own b hb).2 fun e => hne b hb e.symm
theorem rdC_intC {w : World} {S : Nat → Prop} : ∀ (l : List Int) (cs : List Value), rdC w 1 S (l.map (D.num .i64)) cs → cs = l.map (Value.int .i64)
  | [], cs, h => h
  | x :: r, cs, h => by
    simp only [List.map_cons, rdC] at h
    obtain ⟨c1, c2, rfl, hl, h1, h2⟩ := h
    rw [(D.rd_num.1 h1).1, rdC_intC r c2 h2]; rfl
theorem GI.form {w : World} {B : Nat} {e : TypeId} {A : Option Addr} {c n : Nat} {l : List Int} (h : Gre w B e 1 (.slice A n c) n (l.map (D.num .i64))) (k : Nat) (hk : k < l.length) :
    ∃ g, A = some ⟨g, 0, none⟩ ∧ w.cell? ⟨g, k, none⟩ = some (.int .i64 l[k]) ∧ (∀ q, w.frozen? ⟨g, q, none⟩ = false) ∧ n ≤ c ∧ c ≤ maxLen := by
  obtain ⟨h1, cs, h2, h4⟩ := h
  have hcs := rdC_intC l cs h4
  simp only [List.length_map] at h1
  rcases h2.2 with ⟨_, h⟩ | ⟨g, cap, cur, hv, a1, a2, a3, a4, a5, a6⟩
  · omega
  · simp only [Value.slice.injEq] at hv
    obtain ⟨rfl, _, rfl⟩ := hv
    refine ⟨g, rfl, ?_, fun q => Row.frozen (t := e) (cs := cur) a2 q, a3, a4⟩
    rw [Row.cell (t := e) (cs := cur) a2, ← Array.getElem?_toList]
    have : (cur.toList.take (n * 1))[k]? = some (.int .i64 l[k]) := by rw [a6, hcs]; simp [hk]
    rwa [List.getElem?_take_of_lt (by omega)] at this
theorem GI.set {w : World} {B : Nat} {e : TypeId} {g c n : Nat} {l : List Int} (h : Gre w B e 1 (.slice (some ⟨g, 0, none⟩) n c) n (l.map (D.num .i64))) (k : Nat) (hk : k < l.length) (d : Int) (hd : (Lit.int .i64 d).wf = true) :
    Gre (w.setCell ⟨g, k, none⟩ (.int .i64 d)) B e 1 (.slice (some ⟨g, 0, none⟩) n c) n ((l.set k d).map (D.num .i64)) := by
  obtain ⟨h1, cs, h2, h4⟩ := h
  have hcs := rdC_intC l cs h4
  simp only [List.length_map] at h1
  have hw : ∀ x ∈ l, (Lit.int .i64 x).wf = true := by
    clear hk h1 h2
    revert cs
    induction l with
    | nil => intro _ _ _ x hx; cases hx
    | cons y r ih =>
      intro cs h4 hcs x hx
      simp only [List.map_cons, rdC] at h4
      obtain ⟨c1, c2, e1, hl, k1, k2⟩ := h4
      rcases List.mem_cons.1 hx with rfl | hx
      · exact (D.rd_num.1 k1).2
      · exact ih c2 k2 (rdC_intC r c2 k2) x hx
  refine ⟨by simpa using h1, (l.set k d).map (Value.int .i64), ⟨by simp [h1], ?_⟩, rdC_int _ fun x hx => ?_⟩
  · rcases h2.2 with ⟨h, _⟩ | ⟨g', cap, cur, hv, a1, a2, a3, a4, a5, a6⟩
    · cases h
    · simp only [Value.slice.injEq, Option.some.injEq, Addr.mk.injEq, and_true, true_and] at hv
      obtain ⟨rfl, rfl⟩ := hv
      refine .inr ⟨g, c, cur.setIfInBounds k (.int .i64 d), rfl, a1, Row.set (t := e) (cs := cur) a2 k _, a3, a4, by simp [a5], ?_⟩
      rw [Array.toList_setIfInBounds, List.take_set, a6, hcs, List.map_set]
  · rcases List.mem_or_eq_of_mem_set hx with h | rfl
    · exact hw x h
    · exact hd
theorem GI.pop {w : World} {B : Nat} {e : TypeId} {A : Option Addr} {c n : Nat} {d : Int} {l : List Int} (h : Gre w B e 1 (.slice A (n + 1) c) (n + 1) ((l ++ [d]).map (D.num .i64))) (hB : B ≤ w.heap.size) : Gre w B e 1 (.slice A n c) n (l.map (D.num .i64)) := by
  obtain ⟨h1, cs, h2, h4⟩ := h
  have h5 := rdC_num (w' := w) (S' := Lt B) (l ++ [d]) cs h4
  rw [List.map_append] at h5
  have hg : Gsh w B e 1 (.slice A (n + 1) c) (n + 1) (l.map (D.num .i64) ++ [D.num .i64 d]) := ⟨by simpa using h1, cs, h2, h5⟩
  exact Gre.of_gsh (Gsh.pop hg) hB

/-- what l15Go does -/
def goS (out : List Int) (todo : List Nat) (ok : Bool) (q : Nat) (d : Int) : List Int × List Nat × Bool :=
  if out.length ≤ q ∨ 60 < d then (out, todo, false) else if out.getD q 0 < 0 then (out.set q d, todo ++ [q], ok) else if out.getD q 0 = d then (out, todo, ok) else (out, todo, false)
theorem bool_wf : True := trivial

theorem goS_len (out : List Int) (todo : List Nat) (ok : Bool) (q : Nat) (d : Int) : (goS out todo ok q d).1.length = out.length ∧ (goS out todo ok q d).2.1.length ≤ todo.length + 1 := by
  unfold goS; split
  · simp
  · split
    · simp
    · split <;> simp
theorem goS_false (out : List Int) (todo : List Nat) (q : Nat) (d : Int) : (goS out todo false q d).2.2 = false := by
  unfold goS; split
  · rfl
  · split
    · rfl
    · split <;> rfl
theorem goS_big {out : List Int} {todo : List Nat} {ok : Bool} {q : Nat} {d : Int} (h : 60 < d) : goS out todo ok q d = (out, todo, false) := by unfold goS; rw [if_pos (.inr h)]
theorem goS_step {ops : List GOp} {out : List Int} {todo : List Nat} {q : Nat} {d' : Int} {don : Int → Prop} (h : PInv ops out todo q d' don) {p : Nat} (hp : (p : Int) ∈ nextI (ops[q]'h.hq) q) (hl : p < out.length) :
    ((goS out todo true p d').2.2 = true → PInv ops (goS out todo true p d').1 (goS out todo true p d').2.1 q d' (fun x => don x ∨ x = p) ∧ 2 * negs (goS out todo true p d').1 + (goS out todo true p d').2.1.length ≤ 2 * negs out + todo.length) ∧
    ((goS out todo true p d').2.2 = false → Bad ops) := by
  have hr := h.rng
  have eg : out.getD p 0 = out[p] := by simp [List.getD, List.getElem?_eq_getElem hl]
  have e : goS out todo true p d' = if out[p] < 0 then (out.set p d', todo ++ [p], true) else if out[p] = d' then (out, todo, true) else (out, todo, false) := by
    unfold goS; rw [if_neg (by omega), eg]
  by_cases h1 : out[p] < 0
  · rw [e, if_pos h1]
    have h2 : out[p] = -1 := by rcases h.base.val p hl with h2 | ⟨h2, _, _⟩; exact h2; omega
    have h3 := negs_set (d := d') hl h2 (by omega)
    exact ⟨fun _ => ⟨h.set hp hl h2, by simp only [List.length_append, List.length_singleton]; omega⟩, fun h => by cases h⟩
  · have h4 : ¬ out[p] = -1 := by omega
    by_cases h2 : out[p] = d'
    · rw [e, if_neg h1, if_pos h2]
      exact ⟨fun _ => ⟨h.same hl h2, Nat.le_refl _⟩, fun h => by cases h⟩
    · rw [e, if_neg h1, if_neg h2]
      exact ⟨fun h => (by cases h), fun _ => h.bad hp hl h4 h2⟩

/-- what l15One leaves: the search goes on, or something is wrong -/
def OneR (ops : List GOp) (M : Nat) (r : List Int × List Nat × Bool) : Prop := (r.2.2 = true → SInv ops r.1 r.2.1 (fun _ => False) ∧ 2 * negs r.1 + r.2.1.length < M) ∧ (r.2.2 = false → Bad ops) ∧ r.1.length = ops.length
theorem one0 {ops : List GOp} {out : List Int} {ts : List Nat} {q : Nat} {d' : Int} (h : SInv ops out (ts ++ [q]) (fun _ => False)) (hq : q < ops.length) (h' : q < out.length) (hn : nextI ops[q] q = []) (ha : afterI ops[q] out[q] = some d') : OneR ops (2 * negs out + ts.length + 1) (out, ts, true) :=
  ⟨fun _ => ⟨(h.pop h' hq ha).end (by rw [hn]; simp), Nat.lt_succ_self _⟩, fun h => by simp at h, h.len⟩
theorem oneBad {ops : List GOp} {out : List Int} {ts : List Nat} {q : Nat} {M : Nat} (h : SInv ops out (ts ++ [q]) (fun _ => False)) (hq : q < ops.length) (h' : q < out.length) (ha : afterI ops[q] out[q] = none) : OneR ops M (out, ts, false) :=
  ⟨fun h => by simp at h, fun _ => h.bad h' hq ha, h.len⟩
theorem one1 {ops : List GOp} {out : List Int} {ts : List Nat} {q : Nat} {nx : Int} (h : SInv ops out (ts ++ [q]) (fun _ => False)) (hJ : JumpsIn ops) (hq : q < ops.length) (h' : q < out.length) (p : Nat) (hn : nextI ops[q] q = [(p : Int)]) (ha : afterI ops[q] out[q] = if 60 < nx then none else some nx) :
    OneR ops (2 * negs out + ts.length + 1) (goS out ts true p nx) := by
  by_cases hb : 60 < nx
  · rw [goS_big hb]; rw [if_pos hb] at ha; exact oneBad h hq h' ha
  · rw [if_neg hb] at ha
    have hp := h.pop h' hq ha
    have hm : (p : Int) ∈ nextI ops[q] q := by rw [hn]; simp
    have hpl := hJ.2 q hq _ hm
    have hs := goS_step hp hm (by have := h.len; omega)
    refine ⟨fun e => ?_, hs.2, by rw [(goS_len _ _ _ _ _).1]; exact h.len⟩
    obtain ⟨a, b⟩ := hs.1 e
    exact ⟨a.end (by rw [hn]; simp), by omega⟩
theorem one2 {ops : List GOp} {out : List Int} {ts : List Nat} {q : Nat} {nx : Int} (h : SInv ops out (ts ++ [q]) (fun _ => False)) (hJ : JumpsIn ops) (hq : q < ops.length) (h' : q < out.length) (p : Nat) (hn : nextI ops[q] q = [((q + 1 : Nat) : Int), (p : Int)]) (ha : afterI ops[q] out[q] = if 60 < nx then none else some nx) :
    OneR ops (2 * negs out + ts.length + 1) (goS (goS out ts true p nx).1 (goS out ts true p nx).2.1 (goS out ts true p nx).2.2 (q + 1) nx) := by
  by_cases hb : 60 < nx
  · rw [goS_big hb, goS_big hb]; rw [if_pos hb] at ha; exact oneBad h hq h' ha
  · rw [if_neg hb] at ha
    have hp := h.pop h' hq ha
    have hm : (p : Int) ∈ nextI ops[q] q := by rw [hn]; simp
    have hm1 : ((q + 1 : Nat) : Int) ∈ nextI ops[q] q := by rw [hn]; simp
    have hpl := hJ.2 q hq _ hm
    have hpl1 := hJ.2 q hq _ hm1
    have hs := goS_step hp hm (by have := h.len; omega)
    have hl1 := (goS_len out ts true p nx).1
    cases he : (goS out ts true p nx).2.2 with
    | false =>
      refine ⟨fun e => ?_, fun _ => hs.2 he, by rw [(goS_len _ _ _ _ _).1, hl1]; exact h.len⟩
      rw [goS_false] at e; cases e
    | true =>
      obtain ⟨a, b⟩ := hs.1 he
      have hs2 := goS_step a hm1 (by have := h.len; omega)
      refine ⟨fun e => ?_, hs2.2, by rw [(goS_len _ _ _ _ _).1, hl1]; exact h.len⟩
      obtain ⟨a2, b2⟩ := hs2.1 e
      exact ⟨a2.end (by rw [hn]; simp), by omega⟩

theorem GI.osl {w : World} {B : Nat} {e : TypeId} {A : Option Addr} {c n : Nat} {l : List Int} (h : Gre w B e 1 (.slice A n c) n (l.map (D.num .i64))) (hw : ∀ x ∈ l, (Lit.int .i64 x).wf = true) : Osl w (Btw B w.heap.size) 1 A c (l.map (D.num .i64)) := by
  have hl : l.length = n := by have := h.1; simpa using this
  by_cases hn : 0 < l.length
  · obtain ⟨g, rfl, _, hf, h1, h2⟩ := GI.form h 0 hn
    have ho := h.own g rfl
    refine ⟨by simpa [hl] using h1, h2, .inr ⟨g, rfl, ho, hf, rowI_ownR l _ 0 hw fun k hk => ?_⟩⟩
    obtain ⟨g', e', hc, _⟩ := GI.form h k hk
    obtain rfl : g = g' := by simpa using e'
    rw [Nat.zero_add]; exact hc
  · have hn' : l = [] := List.eq_nil_of_length_eq_zero (by omega)
    subst hn'
    obtain ⟨A', c', e', hs⟩ := h.sl
    obtain ⟨rfl, rfl⟩ : A = A' ∧ c = c' := by simpa using e'
    exact Osl.nil hs.2.1
theorem DepthsTo.yesG {l : List GFun} {i : Int} {w w' : World} {B : Nat} {t : TypeId} {A : Option Addr} {c : Nat} {out : List Int} (h : IsDepths l i (some out)) (hr : Gre w' B t 1 (.slice A out.length c) out.length (out.map (D.num .i64))) (hg : w.heap.size ≤ B) (hw : ∀ x ∈ out, (Lit.int .i64 x).wf = true) (hb : Below w.heap.size w w') : DepthsTo l i w (.returned (.tuple #[.slice A out.length c, .bool true])) w' :=
  ⟨some out, A, c, h, rfl, (GI.osl hr hw).keep fun b hb => ⟨⟨by have := hb.1; omega, hb.2⟩, rfl⟩, hb⟩

end Go.Proofs.Ytgbcdfeflgnogaa
