/- How deep the values stand at the places of a function: what is reached, what is bad, and that a search finds it (no program in sight). Conditions: none. -/
import Derived.Test.YtgbcdfeflgnogaaEffect
import Derived.Test.YtgbcdfeflgnogaaFunsOk
namespace Go.Proofs.Ytgbcdfeflgnogaa
open Go.RowKit
set_option linter.unusedVariables false
set_option linter.unusedSimpArgs false
set_option maxHeartbeats 1000000

/-- how many values there are behind a place; none where it may not be -/
def afterI (o : GOp) (d : Int) : Option Int :=
  if d - 1 < (effI o.code o.m).1 ∨ (o.code = 2 ∧ d ≤ o.n) ∨ 60 < d - (effI o.code o.m).1 + (effI o.code o.m).2 ∨ (o.code = 7 ∧ ¬ d = 2) then none else some (d - (effI o.code o.m).1 + (effI o.code o.m).2)
/-- the places that may come behind a place -/
def nextI (o : GOp) (q : Nat) : List Int :=
  if o.code = 7 ∨ o.code = 21 then [] else if o.code = 19 then [o.n] else if o.code = 10 ∨ o.code = 11 then [((q + 1 : Nat) : Int), o.m] else if o.code = 18 then [((q + 1 : Nat) : Int), o.n] else [((q + 1 : Nat) : Int)]

theorem effI_snd (c m : Int) : 0 ≤ (effI c m).2 := by
  unfold effI
  split <;> (try split) <;> (try split) <;> (try split) <;> (try split) <;> simp
theorem afterI_ge {o : GOp} {d d' : Int} (h : afterI o d = some d') : 1 ≤ d' := by
  unfold afterI at h
  split at h
  · cases h
  · rename_i hn
    simp only [Option.some.injEq] at h
    have := effI_snd o.code o.m
    omega

inductive Reach (ops : List GOp) : Nat → Int → Prop
  | start : Reach ops 0 1
  | step {q p : Nat} {d d' : Int} (h : q < ops.length) : Reach ops q d → afterI ops[q] d = some d' → (p : Int) ∈ nextI ops[q] q → Reach ops p d'
theorem Reach.ge {ops : List GOp} {k : Nat} {d : Int} (h : Reach ops k d) : 1 ≤ d := by
  cases h with
  | start => omega
  | step hq hr ha hp => exact afterI_ge ha
/-- something is wrong -/
def Bad (ops : List GOp) : Prop := (∃ q d, ∃ h : q < ops.length, Reach ops q d ∧ afterI ops[q] d = none) ∨ ∃ q d1 d2, Reach ops q d1 ∧ Reach ops q d2 ∧ ¬ d1 = d2
/-- what is found -/
def Found (ops : List GOp) : Option (List Int) → Prop
  | none => Bad ops
  | some l => ¬ Bad ops ∧ l.length = ops.length ∧ ∀ k (h : k < l.length), (l[k] = -1 ∧ ∀ d, ¬ Reach ops k d) ∨ Reach ops k l[k]
theorem Found.one {ops : List GOp} {r r' : Option (List Int)} (h : Found ops r) (h' : Found ops r') : r = r' := by
  match r, r' with
  | none, none => rfl
  | none, some _ => exact absurd h h'.1
  | some _, none => exact absurd h' h.1
  | some l, some l' =>
    congr 1
    refine List.ext_getElem (h.2.1.trans h'.2.1.symm) fun k h1 h2 => ?_
    rcases h.2.2 k h1 with ⟨a, b⟩ | a <;> rcases h'.2.2 k h2 with ⟨a', b'⟩ | a'
    · rw [a, a']
    · exact absurd a' (b _)
    · exact absurd a (b' _)
    · exact Classical.byContradiction fun e => h.1 (.inr ⟨k, _, _, a, a', e⟩)

/-- the jumps stay within -/
def JumpsIn (ops : List GOp) : Prop := 1 ≤ ops.length ∧ ∀ q (h : q < ops.length), ∀ x ∈ nextI ops[q] q, 0 ≤ x ∧ x < ops.length
/-- what an op takes and puts is small -/
def EffIn (ops : List GOp) : Prop := ∀ q (h : q < ops.length), 0 ≤ (effI ops[q].code ops[q].m).1 ∧ (effI ops[q].code ops[q].m).1 ≤ 1048576 ∧ 0 ≤ (effI ops[q].code ops[q].m).2 ∧ (effI ops[q].code ops[q].m).2 ≤ 1

/-- a place is done: what comes behind it has its depth -/
def Closed (ops : List GOp) (out : List Int) (k : Nat) : Prop := ∃ d', ∃ h : k < ops.length, ∃ h' : k < out.length, afterI ops[k] out[k] = some d' ∧ ∀ x ∈ nextI ops[k] k, out[x.toNat]? = some d'
structure SInv (ops : List GOp) (out : List Int) (todo : List Nat) (ex : Nat → Prop) : Prop where
  len : out.length = ops.length
  val : ∀ k (h : k < out.length), out[k] = -1 ∨ (1 ≤ out[k] ∧ out[k] ≤ 60 ∧ Reach ops k out[k])
  stk : ∀ k ∈ todo, ∃ h : k < out.length, ¬ out[k] = -1
  done : ∀ k (h : k < out.length), ¬ out[k] = -1 → k ∈ todo ∨ ex k ∨ Closed ops out k
  first : out[0]? = some 1
/-- at a place that is being done -/
structure PInv (ops : List GOp) (out : List Int) (todo : List Nat) (q : Nat) (d' : Int) (don : Int → Prop) : Prop where
  base : SInv ops out todo (fun k => k = q)
  hq : q < ops.length
  hq' : q < out.length
  at' : afterI ops[q] out[q] = some d'
  mark : ¬ out[q] = -1
  rng : 1 ≤ d' ∧ d' ≤ 60
  nxt : ∀ x ∈ nextI ops[q] q, don x → out[x.toNat]? = some d'

theorem SInv.start {ops : List GOp} {out : List Int} (h1 : 1 ≤ ops.length) (hl : out.length = ops.length) (h0 : out[0]? = some 1) (hr : ∀ k (h : k < out.length), 0 < k → out[k] = -1) : SInv ops out [0] (fun _ => False) := by
  have e0 : out[0]'(by omega) = 1 := by rw [List.getElem?_eq_getElem (by omega)] at h0; exact Option.some.inj h0
  refine ⟨hl, fun k h => ?_, fun k hk => ?_, fun k h hne => ?_, h0⟩
  · by_cases hk : k = 0
    · subst hk; right; rw [e0]; exact ⟨by omega, by omega, .start⟩
    · left; exact hr k h (by omega)
  · simp only [List.mem_singleton] at hk
    subst hk
    exact ⟨by omega, by rw [e0]; omega⟩
  · left
    by_cases hk : k = 0
    · subst hk; simp
    · exact absurd (hr k h (by omega)) hne

theorem SInv.pop {ops : List GOp} {out : List Int} {todo : List Nat} {q : Nat} {d' : Int} (h : SInv ops out (todo ++ [q]) (fun _ => False)) (h' : q < out.length) (hq : q < ops.length) (ha : afterI ops[q] out[q] = some d') : PInv ops out todo q d' (fun _ => False) := by
  obtain ⟨_, hm⟩ := h.stk q (by simp)
  refine ⟨⟨h.len, h.val, fun k hk => h.stk k (by simp [hk]), fun k hk hne => ?_, h.first⟩, hq, h', ha, hm, ?_, fun _ _ hf => hf.elim⟩
  · rcases h.done k hk hne with h1 | h1 | h1
    · rcases List.mem_append.1 h1 with h2 | h2
      · exact .inl h2
      · exact .inr (.inl (by simpa using h2))
    · exact h1.elim
    · exact .inr (.inr h1)
  · have h1 := afterI_ge ha
    unfold afterI at ha
    split at ha
    · cases ha
    · rename_i hn
      simp only [Option.some.injEq] at ha
      omega
theorem SInv.bad {ops : List GOp} {out : List Int} {todo : List Nat} {ex : Nat → Prop} {q : Nat} (h : SInv ops out (todo ++ [q]) ex) (h' : q < out.length) (hq : q < ops.length) (ha : afterI ops[q] out[q] = none) : Bad ops := by
  obtain ⟨_, hm⟩ := h.stk q (by simp)
  rcases h.val q h' with e | ⟨_, _, e⟩
  · exact absurd e hm
  · exact .inl ⟨q, _, hq, e, ha⟩
theorem PInv.reach {ops : List GOp} {out : List Int} {todo : List Nat} {q : Nat} {d' : Int} {don : Int → Prop} (h : PInv ops out todo q d' don) {p : Nat} (hp : (p : Int) ∈ nextI (ops[q]'h.hq) q) : Reach ops p d' := by
  rcases h.base.val q h.hq' with e | ⟨_, _, e⟩
  · exact absurd e h.mark
  · exact .step h.hq e h.at' hp
theorem PInv.bad {ops : List GOp} {out : List Int} {todo : List Nat} {q : Nat} {d' : Int} {don : Int → Prop} (h : PInv ops out todo q d' don) {p : Nat} (hp : (p : Int) ∈ nextI (ops[q]'h.hq) q) (hl : p < out.length) (h1 : ¬ out[p] = -1) (h2 : ¬ out[p] = d') : Bad ops := by
  rcases h.base.val p hl with e | ⟨_, _, e⟩
  · exact absurd e h1
  · exact .inr ⟨p, _, _, e, h.reach hp, h2⟩
theorem PInv.same {ops : List GOp} {out : List Int} {todo : List Nat} {q : Nat} {d' : Int} {don : Int → Prop} (h : PInv ops out todo q d' don) {p : Nat} (hl : p < out.length) (h2 : out[p] = d') : PInv ops out todo q d' (fun x => don x ∨ x = p) :=
  ⟨h.base, h.hq, h.hq', h.at', h.mark, h.rng, fun x hx hd => by
    rcases hd with hd | rfl
    · exact h.nxt x hx hd
    · rw [Int.toNat_natCast, List.getElem?_eq_getElem hl, h2]⟩
theorem PInv.set {ops : List GOp} {out : List Int} {todo : List Nat} {q : Nat} {d' : Int} {don : Int → Prop} (h : PInv ops out todo q d' don) {p : Nat} (hp : (p : Int) ∈ nextI (ops[q]'h.hq) q) (hl : p < out.length) (h1 : out[p] = -1) : PInv ops (out.set p d') (todo ++ [p]) q d' (fun x => don x ∨ x = p) := by
  have hpq : ¬ p = q := fun e => by subst e; exact h.mark h1
  have hd1 : ¬ d' = -1 := by have := h.rng; omega
  have hget : ∀ k (hk : k < (out.set p d').length), ¬ k = p → (out.set p d')[k] = out[k]'(by simpa using hk) := fun k hk hne => List.getElem_set_ne (by omega) _
  have hkeep : ∀ (x : Nat) (d : Int), ¬ d = -1 → out[x]? = some d → (out.set p d')[x]? = some d := fun x d hd he => by
    by_cases hx : x = p
    · subst hx; rw [List.getElem?_eq_getElem hl, h1] at he; simp at he; omega
    · rw [List.getElem?_set_ne (by omega)]; exact he
  refine ⟨⟨by simp [h.base.len], fun k hk => ?_, fun k hk => ?_, fun k hk hne => ?_, ?_⟩, h.hq, by simpa using h.hq', ?_, ?_, h.rng, fun x hx hd => ?_⟩
  · by_cases e : k = p
    · subst e
      right
      rw [List.getElem_set_self]
      exact ⟨h.rng.1, h.rng.2, h.reach hp⟩
    · rw [hget k hk e]; exact h.base.val k (by simpa using hk)
  · rcases List.mem_append.1 hk with h2 | h2
    · obtain ⟨a, b⟩ := h.base.stk k h2
      have e : ¬ k = p := fun e => by subst e; exact b h1
      exact ⟨by simpa using a, by rw [hget k (by simpa using a) e]; exact b⟩
    · obtain rfl : k = p := by simpa using h2
      exact ⟨by simpa using hl, by rw [List.getElem_set_self]; exact hd1⟩
  · by_cases e : k = p
    · subst e; left; simp
    · rw [hget k hk e] at hne
      rcases h.base.done k (by simpa using hk) hne with h2 | h2 | ⟨d2, a1, a2, a3, a4⟩
      · left; simp [h2]
      · exact .inr (.inl h2)
      · refine .inr (.inr ⟨d2, a1, hk, by rw [hget k hk e]; exact a3, fun x hx => hkeep _ _ ?_ (a4 x hx)⟩)
        have := afterI_ge a3; omega
  · rw [List.getElem?_set]
    split
    · rename_i e
      subst e
      have := h.base.first
      rw [List.getElem?_eq_getElem hl, h1] at this
      simp at this
    · exact h.base.first
  · rw [hget q _ (by omega)]; exact h.at'
  · rw [hget q _ (by omega)]; exact h.mark
  · rcases hd with hd | rfl
    · exact hkeep _ _ hd1 (h.nxt x hx hd)
    · rw [Int.toNat_natCast, List.getElem?_set_self hl]
theorem PInv.end {ops : List GOp} {out : List Int} {todo : List Nat} {q : Nat} {d' : Int} {don : Int → Prop} (h : PInv ops out todo q d' don) (hd : ∀ x ∈ nextI (ops[q]'h.hq) q, don x) : SInv ops out todo (fun _ => False) :=
  ⟨h.base.len, h.base.val, h.base.stk, fun k hk hne => by
    rcases h.base.done k hk hne with h2 | rfl | h2
    · exact .inl h2
    · exact .inr (.inr ⟨d', h.hq, h.hq', h.at', fun x hx => h.nxt x hx (hd x hx)⟩)
    · exact .inr (.inr h2), h.base.first⟩
theorem SInv.end {ops : List GOp} {out : List Int} (h : SInv ops out [] (fun _ => False)) : Found ops (some out) := by
  have key : ∀ k d, Reach ops k d → out[k]? = some d := by
    intro k d hr
    induction hr with
    | start => exact h.first
    | @step q p d d' hq hr ha hp ih =>
      obtain ⟨h1, e⟩ := List.getElem?_eq_some_iff.1 ih
      have hne : ¬ out[q] = -1 := by
        rw [e]; have := hr.ge; omega
      rcases h.done q h1 hne with h2 | h2 | ⟨d2, a1, a2, a3, a4⟩
      · cases h2
      · exact h2.elim
      · rw [e, ha] at a3
        cases a3
        have := a4 _ hp
        rwa [Int.toNat_natCast] at this
  refine ⟨?_, h.len, fun k hk => ?_⟩
  · rintro (⟨q, d, hq, hr, ha⟩ | ⟨q, d1, d2, h1, h2, hne⟩)
    · obtain ⟨h1, e⟩ := List.getElem?_eq_some_iff.1 (key q d hr)
      rcases h.val q h1 with e3 | ⟨e3, _, _⟩
      · rw [e3] at e; have := hr.ge; omega
      · rcases h.done q h1 (by omega) with h2 | h2 | ⟨d2, a1, a2, a3, a4⟩
        · cases h2
        · exact h2.elim
        · rw [e, ha] at a3; cases a3
    · have e1 := key _ _ h1
      rw [key _ _ h2] at e1
      cases e1; exact hne rfl
  · rcases h.val k hk with e | ⟨_, _, e⟩
    · left
      refine ⟨e, fun d hr => ?_⟩
      have e1 := key _ _ hr
      rw [List.getElem?_eq_getElem hk, e] at e1
      simp at e1
      have := hr.ge
      omega
    · exact .inr e

/-- how many places are not reached yet -/
def negs : List Int → Nat | [] => 0 | x :: r => (if x = -1 then 1 else 0) + negs r
theorem negs_set : ∀ {l : List Int} {p : Nat} {d : Int} (h : p < l.length), l[p] = -1 → ¬ d = -1 → negs (l.set p d) + 1 = negs l
  | x :: r, 0, d, h, e, hd => by simp at e; simp [negs, e, hd]; omega
  | x :: r, p + 1, d, h, e, hd => by
    have := negs_set (l := r) (p := p) (by simpa using h) (by simpa using e) hd
    simp [negs]; omega

open Classical in
theorem funsB_out {l : List GFun} (h : funsB l = true) : topB l ∧ AllHead l l.length ∧ AllTail l l.length := by
  unfold funsB at h; exact of_decide_eq_true h
theorem funs_op {l : List GFun} (h : funsB l = true) (i : Nat) (hi : i < l.length) (q : Nat) (hq : q < l[i].list.length) : opP l[i].free l[i].list.length l.length (freeAt l) i l[i].list[q].code l[i].list[q].n l[i].list[q].m := by
  have h1 := (funsB_out h).2.2 i hi hi
  unfold tailB at h1
  rw [Bool.and_eq_true, List.all_eq_true] at h1
  have h2 := h1.1 _ (List.getElem_mem hq)
  unfold opB at h2
  exact of_decide_eq_true h2
theorem funs_last {l : List GFun} (h : funsB l = true) (i : Nat) (hi : i < l.length) (q : Nat) (hq : q + 1 = l[i].list.length) : l[i].list[q].code = 7 ∨ l[i].list[q].code = 19 ∨ l[i].list[q].code = 21 := by
  have h1 := (funsB_out h).2.2 i hi hi
  unfold tailB at h1
  rw [Bool.and_eq_true, lastB_at q hq.symm] at h1
  exact of_decide_eq_true h1.2
theorem funs_in {l : List GFun} (h : funsB l = true) (i : Nat) (hi : i < l.length) : JumpsIn l[i].list ∧ EffIn l[i].list ∧ l[i].list.length ≤ 3000 := by
  have hh := headB_in ((funsB_out h).2.1 i hi hi)
  refine ⟨⟨hh.2.2.1, fun q hq x hx => ?_⟩, fun q hq => ?_, hh.2.2.2⟩
  · have ho := funs_op h i hi q hq
    have hl := funs_last h i hi q
    generalize hc : (l[i].list[q]).code = c at *
    generalize hn : (l[i].list[q]).n = n at *
    generalize hm : (l[i].list[q]).m = m at *
    unfold nextI at hx
    rw [hc, hn, hm] at hx
    unfold opP at ho
    split at hx
    · cases hx
    · split at hx
      · rename_i h1 h2
        obtain rfl : x = n := by simpa using hx
        subst h2
        simp at ho
        omega
      · split at hx
        · rename_i h1 h2 h3
          have hq1 : q + 1 < l[i].list.length := by
            rcases Nat.lt_or_ge (q + 1) l[i].list.length with h4 | h4
            · exact h4
            · have := hl (by omega); omega
          simp only [List.mem_cons, List.not_mem_nil, or_false] at hx
          rcases hx with rfl | rfl
          · omega
          · rcases h3 with rfl | rfl <;> simp at ho <;> omega
        · split at hx
          · rename_i h1 h2 h3 h5
            have hq1 : q + 1 < l[i].list.length := by
              rcases Nat.lt_or_ge (q + 1) l[i].list.length with h4 | h4
              · exact h4
              · have := hl (by omega); omega
            simp only [List.mem_cons, List.not_mem_nil, or_false] at hx
            rcases hx with rfl | rfl
            · omega
            · subst h5; simp at ho; omega
          · have hq1 : q + 1 < l[i].list.length := by
              rcases Nat.lt_or_ge (q + 1) l[i].list.length with h4 | h4
              · exact h4
              · have := hl (by omega); omega
            simp only [List.mem_cons, List.not_mem_nil, or_false] at hx
            subst hx
            omega
  · have ho := funs_op h i hi q hq
    have hf : ∀ n : Int, 1 ≤ n → n ≤ (l.length : Int) - 1 → 0 ≤ freeAt l n ∧ freeAt l n ≤ 20 := fun n h1 h2 => by
      have hk : n.toNat < l.length := by omega
      have h3 := headB_in ((funsB_out h).2.1 n.toNat hk hk)
      unfold freeAt
      rw [List.getElem?_eq_getElem hk]
      exact ⟨h3.1, h3.2.1⟩
    generalize hc : (l[i].list[q]).code = c at *
    generalize hn : (l[i].list[q]).n = n at *
    generalize hm : (l[i].list[q]).m = m at *
    unfold opP at ho
    have hm2 : c = 5 ∨ c = 8 → 0 ≤ m ∧ m ≤ 20 := by
      rintro (rfl | rfl)
      · simp at ho; obtain ⟨a, b⟩ := ho; subst b; exact hf n (by omega) (by omega)
      · simp at ho; omega
    unfold effI
    split
    · simp
    · split
      · rename_i h1 h2
        have := hm2 h2
        simp; omega
      · split
        · simp
        · split
          · simp
          · split <;> simp

/-- what Depths gives: none, or the depths -/
def IsDepths (l : List GFun) (i : Int) (r : Option (List Int)) : Prop :=
  (funsB l = false ∧ r = none) ∨ (funsB l = true ∧ ¬ (0 ≤ i ∧ i ≤ (l.length : Int) - 1) ∧ r = none) ∨ (funsB l = true ∧ ∃ h : i.toNat < l.length, 0 ≤ i ∧ Found l[i.toNat].list r)
theorem IsDepths.one {l : List GFun} {i : Int} {r r' : Option (List Int)} (h : IsDepths l i r) (h' : IsDepths l i r') : r = r' := by
  rcases h with ⟨a, rfl⟩ | ⟨a, b, rfl⟩ | ⟨a, b, c, d⟩ <;> rcases h' with ⟨a', rfl⟩ | ⟨a', b', rfl⟩ | ⟨a', b', c', d'⟩
  · rfl
  · rfl
  · rw [a] at a'; cases a'
  · rfl
  · rfl
  · omega
  · rw [a] at a'; cases a'
  · omega
  · exact d.one d'
open Classical in
noncomputable def depthsV (l : List GFun) (i : Int) : Option (List Int) := if h : ∃ r, IsDepths l i r then h.choose else none
theorem depthsV_eq {l : List GFun} {i : Int} {r : Option (List Int)} (h : IsDepths l i r) : depthsV l i = r := by
  unfold depthsV
  have he : ∃ r, IsDepths l i r := ⟨r, h⟩
  rw [dif_pos he]
  exact he.choose_spec.one h

end Go.Proofs.Ytgbcdfeflgnogaa
