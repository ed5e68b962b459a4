/- Whether a place of a function is right, in the program and in the reference. Conditions: the function is one of the list, its Free from 0 to 20. -/
import Derived.Test.YtgbcdfeflgnogaaRows
import Derived.Test.YtgbcdfeflgnogaaPw
import Derived.Test.YtgbcdfeflgnogaaGFun
import Derived.Test.YtgbcdfeflgnogaaWithin
import Derived.BigQuiet
import Derived.Lib.Hide
namespace Go.Proofs.Ytgbcdfeflgnogaa
open Go.RowKit
set_option linter.unusedVariables false
set_option linter.unusedSimpArgs false
set_option maxHeartbeats 2000000

def freeAt (l : List GFun) (n : Int) : Int := match l[n.toNat]? with | some g => g.free | none => 0
/-- is a place (c, n, m) of function number i right; fr: its Free, ln: how many places it has, ll: how many functions there are -/
def opP (fr : Int) (ln ll : Nat) (fa : Int → Int) (i : Nat) (c n m : Int) : Prop :=
  if c = 1 then (-1073741824 ≤ n ∧ n ≤ 1073741823) ∧ m = 0
  else if c = 2 then (0 ≤ n ∧ n ≤ 2999) ∧ m = 0
  else if c = 3 then (0 ≤ n ∧ n ≤ fr - 1) ∧ m = 0
  else if c = 4 then 0 < i ∧ n = 0 ∧ m = 0
  else if c = 5 then (1 ≤ n ∧ n ≤ (ll : Int) - 1) ∧ m = fa n
  else if c = 8 then (0 ≤ n ∧ n ≤ 59) ∧ 0 ≤ m ∧ m ≤ 20
  else if c = 9 then (0 ≤ n ∧ n ≤ 59) ∧ m = 0
  else if c = 10 then (0 ≤ n ∧ n ≤ 59) ∧ 0 ≤ m ∧ m ≤ (ln : Int) - 1
  else if c = 11 then (-1073741824 ≤ n ∧ n ≤ 1073741823) ∧ 0 ≤ m ∧ m ≤ (ln : Int) - 1
  else if c = 18 ∨ c = 19 then (0 ≤ n ∧ n ≤ (ln : Int) - 1) ∧ m = 0
  else (1 ≤ c ∧ c ≤ 21) ∧ n = 0 ∧ m = 0
instance (fr : Int) (ln ll : Nat) (fa : Int → Int) (i : Nat) (c n m : Int) : Decidable (opP fr ln ll fa i c n m) := by unfold opP; infer_instance
def opB (l : List GFun) (i : Nat) (f : GFun) (o : GOp) : Bool := decide (opP f.free f.list.length l.length (freeAt l) i o.code o.n o.m)

theorem opP_cases (c : Int) : c = 1 ∨ c = 2 ∨ c = 3 ∨ c = 4 ∨ c = 5 ∨ c = 8 ∨ c = 9 ∨ c = 10 ∨ c = 11 ∨ c = 18 ∨ c = 19 ∨ (¬ c = 1 ∧ ¬ c = 2 ∧ ¬ c = 3 ∧ ¬ c = 4 ∧ ¬ c = 5 ∧ ¬ c = 8 ∧ ¬ c = 9 ∧ ¬ c = 10 ∧ ¬ c = 11 ∧ ¬ c = 18 ∧ ¬ c = 19) := by omega

theorem opP_else {fr : Int} {ln ll : Nat} {fa : Int → Int} {i : Nat} {c : Int} (h : ¬ c = 1 ∧ ¬ c = 2 ∧ ¬ c = 3 ∧ ¬ c = 4 ∧ ¬ c = 5 ∧ ¬ c = 8 ∧ ¬ c = 9 ∧ ¬ c = 10 ∧ ¬ c = 11 ∧ ¬ c = 18 ∧ ¬ c = 19) (n m : Int) : opP fr ln ll fa i c n m ↔ (1 ≤ c ∧ c ≤ 21) ∧ n = 0 ∧ m = 0 := by
  unfold opP
  repeat rw [if_neg (by omega)]

theorem eq_dec {x : Bool} {p : Prop} {d : Decidable p} (h : x = true ↔ p) : x = @decide p d := by
  rw [Bool.eq_iff_iff]; simpa using h

end Go.Proofs.Ytgbcdfeflgnogaa
