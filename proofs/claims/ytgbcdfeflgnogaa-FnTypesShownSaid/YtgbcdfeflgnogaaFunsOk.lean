/- FunsOk: whether functions are right, in the program and in the reference. Conditions: none. -/
import Derived.Test.YtgbcdfeflgnogaaOpOk
namespace Go.Proofs.Ytgbcdfeflgnogaa
open Go.RowKit
set_option linter.unusedVariables false
set_option linter.unusedSimpArgs false
set_option maxHeartbeats 1000000

/-- the head of a function: its Free, how many places it has -/
def headB (f : GFun) : Bool := inB f.free 0 20 && inB (f.list.length : Int) 1 3000
def lastB (f : GFun) : Bool := match f.list.getLast? with | some o => decide (o.code = 7 ∨ o.code = 19 ∨ o.code = 21) | none => false
def tailB (l : List GFun) (i : Nat) (f : GFun) : Bool := f.list.all (opB l i f) && lastB f
def AllHead (l : List GFun) (j : Nat) : Prop := ∀ (i : Nat) (h : i < l.length), i < j → headB l[i] = true
def AllTail (l : List GFun) (j : Nat) : Prop := ∀ (i : Nat) (h : i < l.length), i < j → tailB l i l[i] = true
def topB (l : List GFun) : Prop := (1 ≤ l.length ∧ l.length ≤ 60) ∧ (∃ f, l[0]? = some f ∧ f.free = 0)
open Classical in
/-- are functions right -/
noncomputable def funsB (l : List GFun) : Bool := decide (topB l ∧ AllHead l l.length ∧ AllTail l l.length)

open Classical in
theorem funsB_false {l : List GFun} (h : ¬ (topB l ∧ AllHead l l.length ∧ AllTail l l.length)) : funsB l = false := by
  unfold funsB; exact decide_eq_false h
theorem funsB_top {l : List GFun} (h : ¬ topB l) : funsB l = false := funsB_false fun e => h e.1
theorem funsB_head {l : List GFun} (j : Nat) (h : j < l.length) (e : headB l[j] = false) : funsB l = false := funsB_false fun ⟨_, h1, _⟩ => by
  have := h1 j h h; rw [e] at this; cases this
theorem funsB_tail {l : List GFun} (j : Nat) (h : j < l.length) (e : tailB l j l[j] = false) : funsB l = false := funsB_false fun ⟨_, _, h1⟩ => by
  have := h1 j h h; rw [e] at this; cases this
open Classical in
theorem funsB_true {l : List GFun} (h0 : topB l) (h1 : AllHead l l.length) (h2 : AllTail l l.length) : funsB l = true := by
  unfold funsB; exact decide_eq_true ⟨h0, h1, h2⟩
theorem AllHead.succ {l : List GFun} {j : Nat} (h : AllHead l j) (hj : j < l.length) (e : headB l[j] = true) : AllHead l (j + 1) := fun i hi hij => by
  rcases Nat.lt_or_ge i j with h1 | h1
  · exact h i hi h1
  · have : i = j := by omega
    subst this; exact e
theorem AllTail.succ {l : List GFun} {j : Nat} (h : AllTail l j) (hj : j < l.length) (e : tailB l j l[j] = true) : AllTail l (j + 1) := fun i hi hij => by
  rcases Nat.lt_or_ge i j with h1 | h1
  · exact h i hi h1
  · have : i = j := by omega
    subst this; exact e
/-- the first k places are right -/
def OpsTo (l : List GFun) (i : Nat) (f : GFun) (k : Nat) : Prop := ∀ (q : Nat) (h : q < f.list.length), q < k → opB l i f f.list[q] = true
theorem OpsTo.succ {l : List GFun} {i : Nat} {f : GFun} {k : Nat} (h : OpsTo l i f k) (hk : k < f.list.length) (e : opB l i f f.list[k] = true) : OpsTo l i f (k + 1) := fun q hq hqk => by
  rcases Nat.lt_or_ge q k with h1 | h1
  · exact h q hq h1
  · have : q = k := by omega
    subst this; exact e
theorem tailB_op {l : List GFun} {i : Nat} {f : GFun} (k : Nat) (hk : k < f.list.length) (e : opB l i f f.list[k] = false) : tailB l i f = false := by
  unfold tailB
  have : f.list.all (opB l i f) = false := by
    rw [List.all_eq_false]; exact ⟨_, List.getElem_mem hk, by simp [e]⟩
  rw [this]; rfl
theorem tailB_ops {l : List GFun} {i : Nat} {f : GFun} (h : OpsTo l i f f.list.length) : tailB l i f = lastB f := by
  unfold tailB
  have : f.list.all (opB l i f) = true := by
    rw [List.all_eq_true]; intro x hx
    obtain ⟨q, hq, rfl⟩ := List.getElem_of_mem hx
    exact h q hq hq
  rw [this]; rfl
theorem lastB_at {f : GFun} (k : Nat) (h : f.list.length = k + 1) : lastB f = decide ((f.list[k]'(by omega)).code = 7 ∨ (f.list[k]'(by omega)).code = 19 ∨ (f.list[k]'(by omega)).code = 21) := by
  unfold lastB
  have : f.list.getLast? = some (f.list[k]'(by omega)) := by
    rw [List.getLast?_eq_getElem?, List.getElem?_eq_getElem (by omega)]
    congr 1; congr 1; omega
  rw [this]
theorem headB_in {f : GFun} (h : headB f = true) : 0 ≤ f.free ∧ f.free ≤ 20 ∧ 1 ≤ f.list.length ∧ f.list.length ≤ 3000 := by
  unfold headB inB at h; simp at h; omega

theorem headB_eq {f : GFun} {a b : Bool} (h1 : inB f.free 0 20 = a) (h2 : inB (f.list.length : Int) 1 3000 = b) : headB f = (a && b) := by
  unfold headB; rw [h1, h2]
theorem topB_mk {l : List GFun} (h1 : 1 ≤ l.length) (h2 : l.length ≤ 60) (h : (l[0]'(by omega)).free = 0) : topB l :=
  ⟨⟨h1, h2⟩, _, List.getElem?_eq_getElem (by omega), h⟩
theorem topB_not {l : List GFun} (h1 : 1 ≤ l.length) (h : ¬ (l[0]'(by omega)).free = 0) : ¬ topB l := by
  rintro ⟨_, f, e, hf⟩
  rw [List.getElem?_eq_getElem (by omega)] at e
  have e2 := Option.some.inj e
  rw [e2] at h
  exact h hf

end Go.Proofs.Ytgbcdfeflgnogaa
