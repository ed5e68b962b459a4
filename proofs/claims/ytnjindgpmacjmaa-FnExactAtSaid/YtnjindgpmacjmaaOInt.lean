/- An argument that is a slice of ints, as data in memory. Conditions: none. -/
import Derived.Test.YtnjindgpmacjmaaOpen
import Derived.Test.YtnjindgpmacjmaaRows
import Derived.WalkKit
namespace Go.Proofs.Ytnjindgpmacjmaa
open Go.ChangeShapes Go.WideShapes Go.ChangeAt Go.RowKit Go.Deep
set_option linter.unusedVariables false

set_option maxRecDepth 20000 in
theorem argIntS {H : Type} {enc : TypeId × Value → H} {w : World} {r : Reach} {base : Nat} {sp : Nat → Bool} {held : Bool} {v : Value} {d : DataW H} {p : List MemPlace} (hv : Value.okWide Try.prog w r base 25 v) (h : DataW.Trod enc Try.prog w 0 sp held 25 v d p) :
    ∃ (l : List Int) (A : Option Addr) (c : Nat), v = .slice A l.length c ∧ Sl w (Lt w.heap.size) 1 A c (l.map (D.num .i64)) := by
  obtain ⟨a, len, cap, rfl⟩ := okWide_slice Try.underlying25 hv
  obtain ⟨fuel, hf⟩ := h
  obtain ⟨l, hl⟩ := open_sl 1 (by decide) Try.underlying25 (by kernel_rfl) (D.num .i64) (fun n2 cs x hn h => open_int_el Try.underlying3 h) hf
  obtain ⟨A, c, e, hs⟩ := D.rd_sl.1 hl
  simp only [Value.cells, List.cons.injEq, List.length_map, and_true] at e
  exact ⟨l, A, c, e, hs⟩
end Go.Proofs.Ytnjindgpmacjmaa
