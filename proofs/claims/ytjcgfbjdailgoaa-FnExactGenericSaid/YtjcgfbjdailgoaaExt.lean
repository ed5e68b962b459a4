/- A region that draws its order, where the callees only make memory of their own (no program in sight): Derived/Deep/Quiet.lean's law at the class of all worlds that a call may leave. Conditions: none. -/
import Derived.Test.YtjcgfbjdailgoaaWithin
import Derived.BigQuiet
namespace Go.Proofs.Ytjcgfbjdailgoaa
open Go.RowKit
set_option linter.unusedVariables false
set_option linter.unusedSimpArgs false

/-- the worlds that differ from w in new blocks alone -/
def Ext (w : World) : Type := {w' : World // Below w.heap.size w w'}
instance (w : World) : Nonempty (Ext w) := ⟨⟨w, Below.refl _ _⟩⟩
theorem Ext.below {w : World} (x : Ext w) : Below w.heap.size w x.1 := x.2
theorem Ext.cell {w : World} (x : Ext w) {p : Addr} {v : Value} (h : w.cell? p = some v) (hb : p.block < w.heap.size) : x.1.cell? p = some v := (x.2.cell hb).trans h
theorem Ext.step {w w' : World} (x : Ext w) (h : Below x.1.heap.size x.1 w') : ∃ y : Ext w, w' = y.1 := ⟨⟨w', x.2.trans (h.mono x.2.size)⟩, rfl⟩
theorem wp_region_ext {P : Program} {id : Nat} {Q : Exit → Act → World → Prop} {a : Act} {w : World} {l : List Oper} (hm : P.follows .mixedOrders = true) (hB : Region.lexB .any l.toArray = true)
    (h : wpQuiet P l.toArray (fun w' => ∃ x : Ext w, w' = x.1) (fun a' => ∀ w', (∃ x : Ext w, w' = x.1) → Q .normal a' w') l a) : (Code.region id l.toArray true).wp P Q a w :=
  wp_region_quiet (C := fun w' => ∃ x : Ext w, w' = x.1) hm hB ⟨⟨w.drew, Below.drew (Below.refl _ _)⟩, rfl⟩ (by simpa using h)
end Go.Proofs.Ytjcgfbjdailgoaa
