/- A program that is tidy: what both compute (no program in sight). Conditions: none. -/
import Derived.Test.YtgbcdfeflgnogaaNodeP
import Derived.Test.YtgbcdfeflgnogaaTyTidy
import Derived.Test.YtgbcdfeflgnogaaDeep
import Derived.Test.YtgbcdfeflgnogaaDeepTy
import Derived.Test.YtgbcdfeflgnogaaGProg
namespace Go.Proofs.Ytgbcdfeflgnogaa
open Go.RowKit
set_option linter.unusedVariables false
set_option linter.unusedSimpArgs false

/-- is a type of a con too deep, or not tidy? -/
def badA (vs : Int) (t : GTy) : Bool := decide (24 < t.deep) || !t.tidy vs
def badK (vs : Int) (c : GCon) : Bool := !conB c.name || c.args.any (badA vs)
def badG (d : GData) : Bool := !conB d.name || (!inB d.vars 0 26 || (d.cons.isEmpty || d.cons.any (badK d.vars)))
/-- is a program tidy? -/
def tidyP (p : GProg) : Bool := !(p.datas.any badG) && (decide (p.main.deep ≤ 24) && p.main.exp)

/-- the same, as the program asks it -/
def deepA (t : GTy) : Bool := decide (24 < t.deep)
def deepK (c : GCon) : Bool := c.args.any deepA
def deepG (d : GData) : Bool := d.cons.any deepK
def untidyK (vs : Int) (c : GCon) : Bool := !conB c.name || c.args.any fun t => !t.tidy vs
def untidyG (d : GData) : Bool := !conB d.name || (!inB d.vars 0 26 || (d.cons.isEmpty || d.cons.any (untidyK d.vars)))
def deepsOk (p : GProg) : Bool := !(p.datas.any deepG) && decide (p.main.deep ≤ 24)
def tidyQ (p : GProg) : Bool := deepsOk p && (p.main.exp && !(p.datas.any untidyG))

theorem any_or {α : Type} (f g h : α → Bool) (e : ∀ x, h x = (f x || g x)) : ∀ l : List α, l.any h = (l.any f || l.any g)
  | [] => rfl
  | x :: r => by
    simp only [List.any_cons, any_or f g h e r, e]
    cases f x <;> cases g x <;> simp
theorem badK_eq (vs : Int) (c : GCon) : badK vs c = (deepK c || untidyK vs c) := by
  unfold badK deepK untidyK
  rw [any_or deepA (fun t => !t.tidy vs) (badA vs) (fun t => rfl)]
  cases conB c.name <;> simp
theorem badG_eq (d : GData) : badG d = (deepG d || untidyG d) := by
  unfold badG deepG untidyG
  rw [any_or deepK (untidyK d.vars) (badK d.vars) (badK_eq d.vars)]
  cases conB d.name <;> cases inB d.vars 0 26 <;> cases d.cons.isEmpty <;> simp
theorem tidyQ_eq (p : GProg) : tidyQ p = tidyP p := by
  unfold tidyQ tidyP deepsOk
  rw [any_or deepG untidyG badG badG_eq]
  cases p.datas.any deepG <;> cases p.datas.any untidyG <;> cases p.main.exp <;> simp

theorem tidyP_data {p : GProg} (h : p.datas.any badG = true) : tidyP p = false := by unfold tidyP; rw [h]; rfl
theorem tidyP_main {p : GProg} (h : p.datas.any badG = false) : tidyP p = (decide (p.main.deep ≤ 24) && p.main.exp) := by unfold tidyP; rw [h]; rfl
theorem badG_name {d : GData} (h : conB d.name = false) : badG d = true := by unfold badG; rw [h]; rfl
theorem badG_vars {d : GData} (h : inB d.vars 0 26 = false) : badG d = true := by unfold badG; rw [h]; simp
theorem badG_none {d : GData} (h : d.cons.length = 0) : badG d = true := by unfold badG; rw [List.eq_nil_of_length_eq_zero h]; simp
theorem badG_con {d : GData} (h : d.cons.any (badK d.vars) = true) : badG d = true := by unfold badG; rw [h]; simp
theorem badG_not {d : GData} (h0 : conB d.name = true) (h1 : inB d.vars 0 26 = true) (h2 : ¬ d.cons.length = 0) (h : d.cons.any (badK d.vars) = false) : badG d = false := by
  unfold badG; rw [h0, h1, h]
  cases hc : d.cons with
  | nil => rw [hc] at h2; exact absurd rfl h2
  | cons a r => rfl
theorem untidyG_name {d : GData} (h : conB d.name = false) : untidyG d = true := by unfold untidyG; rw [h]; rfl
theorem untidyG_vars {d : GData} (h : inB d.vars 0 26 = false) : untidyG d = true := by unfold untidyG; rw [h]; simp
theorem untidyG_none {d : GData} (h : d.cons.length = 0) : untidyG d = true := by unfold untidyG; rw [List.eq_nil_of_length_eq_zero h]; simp
theorem untidyG_con {d : GData} (h : d.cons.any (untidyK d.vars) = true) : untidyG d = true := by unfold untidyG; rw [h]; simp
theorem untidyG_not {d : GData} (h0 : conB d.name = true) (h1 : inB d.vars 0 26 = true) (h2 : ¬ d.cons.length = 0) (h : d.cons.any (untidyK d.vars) = false) : untidyG d = false := by
  unfold untidyG; rw [h0, h1, h]
  cases hc : d.cons with
  | nil => rw [hc] at h2; exact absurd rfl h2
  | cons a r => rfl

theorem GCon.args_bulk (c : GCon) : bulkL GTy.bulk c.args ≤ c.bulk := by have := c.bulk_eq; omega
theorem GData.cons_bulk (d : GData) : bulkL GCon.bulk d.cons ≤ d.bulk := by have := d.bulk_eq; omega
/-- a type of a data is not greater than all -/
theorem arg_bulk {l : List GData} {j k m : Nat} (hj : j < l.length) (hk : k < l[j].cons.length) (hm : m < (l[j].cons[k]).args.length) : ((l[j].cons[k]).args[m]).bulk ≤ bulkL GData.bulk l := by
  have h1 := bulkL_mem GData.bulk l _ (List.getElem_mem hj)
  have h2 := bulkL_mem GCon.bulk l[j].cons _ (List.getElem_mem hk)
  have h3 := bulkL_mem GTy.bulk (l[j].cons[k]).args _ (List.getElem_mem hm)
  have h4 := GData.cons_bulk l[j]
  have h5 := GCon.args_bulk (l[j].cons[k])
  omega
end Go.Proofs.Ytgbcdfeflgnogaa
