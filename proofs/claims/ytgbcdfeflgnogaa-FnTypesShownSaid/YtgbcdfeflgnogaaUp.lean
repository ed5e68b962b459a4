/- Regions that draw their order, whose operations only read and whose callees only make memory of their own: one walk serves every order. Conditions: none. -/
import Derived.Test.YtgbcdfeflgnogaaMem
import Derived.BigQuiet
namespace Go.Proofs.Ytgbcdfeflgnogaa
open Go.RowKit
set_option linter.unusedVariables false

/-- a world that has grown out of another -/
structure Up (W : World) where
  v : World
  h : Below W.heap.size W v
instance upNonempty (W : World) : Nonempty (Up W) := ⟨⟨W, Below.refl _ _⟩⟩

theorem wp_region_up {P : Program} {id : Nat} {Q : Exit → Act → World → Prop} {a : Act} {w : World} {l : List Oper} (W : World) (hW : Below W.heap.size W w) (hm : P.follows .mixedOrders = true) (hB : Region.lexB .any l.toArray = true)
    (h : wpQuiet P l.toArray (fun w' => ∃ x : Up W, w' = x.v) (fun a' => ∀ w', (∃ x : Up W, w' = x.v) → Q .normal a' w') l a) : (Code.region id l.toArray true).wp P Q a w :=
  wp_region_quiet (C := fun w' => ∃ x : Up W, w' = x.v) hm hB ⟨⟨_, hW.drew⟩, rfl⟩ h

theorem upCall {P : Program} {f : FuncId} {args : Array Value} {W : World} {x : Up W} {v : Value}
    (h : Calls P f args x.v fun e w' => e = .returned v ∧ Below x.v.heap.size x.v w') : Calls P f args x.v fun e w'' => e = .returned v ∧ ∃ y : Up W, w'' = y.v :=
  h.mono fun _ w' ⟨he, hb⟩ => ⟨he, ⟨w', x.h.trans (hb.mono x.h.size)⟩, rfl⟩
theorem upSame {P : Program} {f : FuncId} {args : Array Value} {W : World} {x : Up W} {v : Value}
    (h : Calls P f args x.v fun e w' => e = .returned v ∧ x.v = w') : Calls P f args x.v fun e w'' => e = .returned v ∧ ∃ y : Up W, w'' = y.v :=
  h.mono fun _ w' ⟨he, hb⟩ => ⟨he, x, hb.symm⟩
theorem upCell {W : World} {p : Addr} {v : Value} (hp : p.block < W.heap.size) (h : W.cell? p = some v) (x : Up W) : x.v.cell? p = some v := (x.h.cell hp).trans h
theorem upRow {W : World} {k : Nat} {t : TypeId} {cs : Array Value} (h : Row W k t cs) (x : Up W) (i : Nat) : x.v.cell? ⟨k, i, none⟩ = cs[i]? := (h.below x.h h.lt).cell i
end Go.Proofs.Ytgbcdfeflgnogaa
