/- Expressions that are tidy, in the program. Conditions: none. -/
import Derived.Test.YtgbcdfeflgnogaaNodeI1
import Derived.Test.YtgbcdfeflgnogaaNodeI2
import Derived.Test.YtgbcdfeflgnogaaNodeI3
import Derived.Test.YtgbcdfeflgnogaaNodeI4
import Derived.Test.YtgbcdfeflgnogaaNodeI5
import Derived.Deep.RegionLaw
import Derived.Deep.DeepMust
import Derived.Deep.RegionHeld3
namespace Go.Proofs.Ytgbcdfeflgnogaa
open Go.RowKit
set_option linter.unusedVariables false
set_option linter.unusedSimpArgs false
set_option maxHeartbeats 40000000

theorem implExp (k : Nat) : ∀ (t : GNode) (A1 : Option Addr) (c1 : Nat) (w : World), t.bulk < k → GNode.At w (Lt w.heap.size) A1 c1 t →
    Calls Try.prog 105 #[.agg #[.int .i64 t.op, .int .i64 t.n, .string t.s, .string t.t, .slice A1 t.kids.length c1]] w fun e w' => e = .returned (.bool t.exp) ∧ Below w.heap.size w w' := by
  induction k with
  | zero => intro t A1 c1 w h; omega
  | succ k ih =>
    intro t A1 c1 w hk0 ht
    have hbe := t.bulk_eq
    have HKK : ∀ x ∈ t.kids, ∀ (A2 : Option Addr) (c2 : Nat) (w2 : World), GNode.At w2 (Lt w2.heap.size) A2 c2 x → Calls Try.prog 105 #[.agg #[.int .i64 x.op, .int .i64 x.n, .string x.s, .string x.t, .slice A2 x.kids.length c2]] w2 fun e w' => e = .returned (.bool x.exp) ∧ Below w2.heap.size w2 w' :=
      fun x hx A2 c2 w2 hx2 => ih x A2 c2 w2 (by have := bulkL_mem GNode.bulk t.kids x hx; omega) hx2
    have HK2 : ∀ y ∈ t.kids, ∀ (A2 : Option Addr) (c2 : Nat) (w2 : World), GNode.At w2 (Lt w2.heap.size) A2 c2 y → Calls Try.prog 197 #[.agg #[.int .i64 y.op, .int .i64 y.n, .string y.s, .string y.t, .slice A2 y.kids.length c2]] w2 fun e w' => e = .returned (.bool y.alt) ∧ Below w2.heap.size w2 w' :=
      fun y hy A2 c2 w2 hy2 => implAlt y A2 c2 w2 (fun x hx A3 c3 w3 hx3 => ih x A3 c3 w3 (by have := bulkL_mem GNode.bulk t.kids y hy; have := bulkL_mem GNode.bulk y.kids x hx; have := y.bulk_eq; omega) hx3) hy2
    by_cases o1 : t.op = 1
    · exact implExp_1 t A1 c1 w o1 HKK HK2 ht
    by_cases o2 : t.op = 2
    · exact implExp_2 t A1 c1 w o2 HKK HK2 ht
    by_cases o3 : t.op = 3
    · exact implExp_3 t A1 c1 w o3 HKK HK2 ht
    by_cases o16 : t.op = 16
    · exact implExp_16 t A1 c1 w o16 HKK HK2 ht
    by_cases o5 : t.op = 5
    · exact implExp_5 t A1 c1 w o5 HKK HK2 ht
    by_cases o6 : t.op = 6
    · exact implExp_6 t A1 c1 w o6 HKK HK2 ht
    by_cases o4 : t.op = 4
    · exact implExp_4 t A1 c1 w o4 HKK HK2 ht
    by_cases o10 : t.op = 10
    · exact implExp_10 t A1 c1 w o10 HKK HK2 ht
    by_cases o11 : t.op = 11
    · exact implExp_11 t A1 c1 w o11 HKK HK2 ht
    by_cases o12 : t.op = 12
    · exact implExp_12 t A1 c1 w o12 HKK HK2 ht
    by_cases o13 : t.op = 13
    · exact implExp_13 t A1 c1 w o13 HKK HK2 ht
    by_cases o14 : t.op = 14
    · exact implExp_14 t A1 c1 w o14 HKK HK2 ht
    by_cases o9 : t.op = 9
    · exact implExp_9 t A1 c1 w o9 HKK HK2 ht
    by_cases o15 : t.op = 15
    · exact implExp_15 t A1 c1 w o15 HKK HK2 ht
    by_cases o7 : t.op = 7
    · exact implExp_7 t A1 c1 w o7 HKK HK2 ht
    exact implExp_o t A1 c1 w o1 o2 o3 o16 o5 o6 o4 o10 o11 o12 o13 o14 o9 o15 o7 HKK HK2 ht

end Go.Proofs.Ytgbcdfeflgnogaa
