/- Expressions that are tidy: what both compute (no program in sight). Conditions: none. -/
import Derived.Test.YtgbcdfeflgnogaaPatTidy
namespace Go.Proofs.Ytgbcdfeflgnogaa
open Go.RowKit
set_option linter.unusedVariables false

/-- is one expression tidy by itself, with so many kids? -/
def exp1 (op n : Int) (s t : ByteArray) (k : Nat) : Bool :=
  if op = 1 then inB n 0 1073741823 && (s.toList.isEmpty && (t.toList.isEmpty && k == 0))
  else n == 0 && (if op = 2 then nameB s && (t.toList.isEmpty && k == 0)
  else if op = 3 then nameB s && (t.toList.isEmpty && k == 1)
  else if op = 5 then nameB s && (t.toList.isEmpty && k == 2)
  else if op = 6 then nameB s && (nameB t && k == 2)
  else if op = 15 then conB s && t.toList.isEmpty
  else s.toList.isEmpty && (t.toList.isEmpty && (if op = 16 then k == 1 else if op = 9 then k == 3 else if op = 7 then decide (2 ≤ k) else if op = 4 then k == 2 else inB op 10 14 && k == 2)))
def alt1 (op n : Int) (s t : ByteArray) (k : Nat) : Bool := op == 8 && (n == 0 && (s.toList.isEmpty && (t.toList.isEmpty && k == 2)))
mutual
def GNode.exp : GNode → Bool | .mk op n s t kids => exp1 op n s t kids.length && (if op = 7 then GNode.caseL kids else GNode.expL kids)
def GNode.expL : List GNode → Bool | [] => true | x :: r => x.exp && GNode.expL r
def GNode.caseL : List GNode → Bool | [] => false | x :: r => x.exp && GNode.altL r
def GNode.altL : List GNode → Bool | [] => true | a :: r => a.alt && GNode.altL r
def GNode.alt : GNode → Bool | .mk op n s t kids => alt1 op n s t kids.length && GNode.altK kids
def GNode.altK : List GNode → Bool | [] => false | p :: r => p.pat && GNode.altE r
def GNode.altE : List GNode → Bool | [] => false | x :: _ => x.exp
end
theorem GNode.exp_eq (t : GNode) : t.exp = (exp1 t.op t.n t.s t.t t.kids.length && (if t.op = 7 then GNode.caseL t.kids else GNode.expL t.kids)) := by
  cases t; rw [GNode.exp]; rfl
theorem GNode.alt_eq (t : GNode) : t.alt = (alt1 t.op t.n t.s t.t t.kids.length && GNode.altK t.kids) := by
  cases t; rw [GNode.alt]; rfl
theorem GNode.expL_all : ∀ l : List GNode, GNode.expL l = l.all GNode.exp
  | [] => by rw [GNode.expL]; rfl
  | t :: r => by rw [GNode.expL, GNode.expL_all r]; rfl
theorem GNode.altL_all : ∀ l : List GNode, GNode.altL l = l.all GNode.alt
  | [] => by rw [GNode.altL]; rfl
  | t :: r => by rw [GNode.altL, GNode.altL_all r]; rfl
theorem GNode.caseL_cons (x : GNode) (r : List GNode) : GNode.caseL (x :: r) = (x.exp && r.all GNode.alt) := by rw [GNode.caseL, GNode.altL_all]
theorem GNode.altK_two (p x : GNode) : GNode.altK [p, x] = (p.pat && x.exp) := by rw [GNode.altK, GNode.altE]
end Go.Proofs.Ytgbcdfeflgnogaa
