/- ConTag. Conditions: what the list holds is at most 1048576. -/
import Derived.Test.YtgbcdfeflgnogaaRows
import Derived.Test.YtgbcdfeflgnogaaPw
import Derived.Test.YtgbcdfeflgnogaaGData
import Derived.Lib.Hide
namespace Go.Proofs.Ytgbcdfeflgnogaa
open Go.RowKit
set_option linter.unusedVariables false
set_option linter.unusedSimpArgs false
set_option maxHeartbeats 1000000

theorem name_ne {a b : ByteArray} (h : ¬ a = b) : (a.toList == b.toList) = false := by
  rw [beq_eq_false_iff_ne]; intro e; apply h; rw [ByteArray.toList_eq, ByteArray.toList_eq] at e; exact ByteArray.ext (Array.toList_inj.1 e)

/-- the tag of a con among the cons of one data; n: how many came before -/
def tagIn (s : ByteArray) : List GCon → Nat → Option Nat
  | [], _ => none
  | c :: r, n => if c.name = s then some n else tagIn s r (n + 1)
/-- the tag of a con -/
def tagOf (s : ByteArray) : List GData → Nat → Option Nat
  | [], _ => none
  | d :: r, n => match tagIn s d.cons n with
    | some x => some x
    | none => tagOf s r (n + d.cons.length)
def tagI : Option Nat → Int
  | some n => n
  | none => -1
/-- how many cons there are -/
def consN : List GData → Nat | [] => 0 | d :: r => d.cons.length + consN r

theorem tagIn_hit {s : ByteArray} {l : List GCon} {k n : Nat} (h : k < l.length) (e : l[k].name = s) : tagIn s (l.drop k) n = some n := by
  rw [List.drop_eq_getElem_cons h, tagIn, if_pos e]
theorem tagIn_miss {s : ByteArray} {l : List GCon} {k n : Nat} (h : k < l.length) (e : ¬ l[k].name = s) : tagIn s (l.drop k) n = tagIn s (l.drop (k + 1)) (n + 1) := by
  rw [List.drop_eq_getElem_cons h, tagIn, if_neg e]
theorem tagOf_hit {s : ByteArray} {l : List GData} {j n m : Nat} (h : j < l.length) (e : tagIn s l[j].cons n = some m) : tagOf s (l.drop j) n = some m := by
  rw [List.drop_eq_getElem_cons h, tagOf, e]
theorem tagOf_miss {s : ByteArray} {l : List GData} {j n : Nat} (h : j < l.length) (e : tagIn s l[j].cons n = none) : tagOf s (l.drop j) n = tagOf s (l.drop (j + 1)) (n + l[j].cons.length) := by
  rw [List.drop_eq_getElem_cons h, tagOf, e]
theorem consN_drop {l : List GData} {j : Nat} (h : j < l.length) : consN (l.drop j) = l[j].cons.length + consN (l.drop (j + 1)) := by
  rw [List.drop_eq_getElem_cons h, consN]
theorem consN_bulk (l : List GData) : consN l ≤ bulkL GData.bulk l := by
  induction l with
  | nil => simp [consN]
  | cons t r ih =>
    simp only [consN, bulkL]
    have := bulkL_len GCon.bulk t.cons
    have e := t.bulk_eq
    omega

end Go.Proofs.Ytgbcdfeflgnogaa
