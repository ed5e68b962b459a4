/- Coverage: sizes of rows of patterns (no program in sight). Conditions: none. -/
import Derived.Test.YtgbcdfeflgnogaaCoverI
import Derived.Test.YtgbcdfeflgnogaaNodeSS
namespace Go.Proofs.Ytgbcdfeflgnogaa
theorem nodes_B {l : List GNode} (h : bulkL GNode.bulk l ≤ 1048576) : ∀ x ∈ l, nodeB 1048576 x := fun x hx => by
  have := bulkL_mem GNode.bulk l x hx
  unfold nodeB; omega
theorem rows_B {l : List (List GNode)} (h : bulkL rowBulk l ≤ 1048576) : ∀ r ∈ l, ∀ x ∈ r, nodeB 1048576 x := fun r hr => by
  have h1 := rowsBulk_mem hr
  have e : rowBulk r = bulkL GNode.bulk r := rfl
  exact nodes_B (by omega)
end Go.Proofs.Ytgbcdfeflgnogaa
