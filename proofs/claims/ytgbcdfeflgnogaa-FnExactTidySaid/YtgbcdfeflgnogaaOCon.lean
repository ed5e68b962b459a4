/- An argument of type Con, as the statement reads it, is data in memory. Conditions: none. -/
import Derived.Test.YtgbcdfeflgnogaaRows
import Derived.Test.YtgbcdfeflgnogaaOpen
import Derived.Test.YtgbcdfeflgnogaaGCon
import Derived.Test.YtgbcdfeflgnogaaOTy
namespace Go.Proofs.Ytgbcdfeflgnogaa
open Go.ChangeShapes Go.WideShapes Go.ChangeAt Go.RowKit Go.Deep
set_option linter.unusedVariables false
set_option linter.unusedSimpArgs false

set_option maxRecDepth 20000 in
theorem openCon {H : Type} {enc : TypeId × Value → H} {w : World} {sp : Nat → Bool} {held : Bool} (fuel : Nat) : ∀ (cs : List Value) (x : DataW H × List MemPlace), DataW.trod enc Try.prog w 0 sp held fuel 257 cs = some x → ∃ t : GCon, t.toD.rd w (Lt w.heap.size) cs := by
  induction fuel using Nat.strongRecOn with
  | _ fuel ih =>
  intro cs x h
  obtain ⟨xs, n, rfl, _, hl, hxl, hf⟩ := DataW.trod_struct Try.underlying257 h
  have hl2 : cs.length = 2 := hl.trans (by kernel_rfl)
  match cs, hl2 with
  | [v0, v1], _ =>
  obtain ⟨z0, e0⟩ := fld hf hxl 0 9 0 1 rfl (by kernel_rfl)
  replace e0 : DataW.trod enc Try.prog w 0 sp held n 9 [v0] = some z0 := e0
  obtain ⟨z1, e1⟩ := fld hf hxl 1 102 1 1 rfl (by kernel_rfl)
  replace e1 : DataW.trod enc Try.prog w 0 sp held n 102 [v1] = some z1 := e1
  obtain ⟨y0, a0, _, b0⟩ := DataW.trod_string Try.underlying9 e0
  obtain ⟨y1, a1⟩ := open_sl 4 (by decide) Try.underlying102 (by kernel_rfl) GTy.toD (fun n2 cs x hn h => openTy n2 cs x h) e1
  refine ⟨⟨y0, y1⟩, ?_⟩
  unfold GCon.toD
  rw [D.rd_agg]
  exact D.rdF_cons.2 ⟨[v0], [v1], rfl, D.rd_str.2 ⟨a0, b0⟩, D.rdF_cons.2 ⟨[v1], [], rfl, a1, D.rdF_nil.2 rfl⟩⟩

set_option maxRecDepth 20000 in
/-- the argument itself -/
theorem argCon {H : Type} {enc : TypeId × Value → H} {w : World} {r : Reach} {base : Nat} {sp : Nat → Bool} {held : Bool} {v : Value} {d : DataW H} {p : List MemPlace} (hv : Value.okWide Try.prog w r base 257 v) (h : DataW.Trod enc Try.prog w 0 sp held 257 v d p) :
    ∃ (t : GCon) (A1 : Option Addr) (c1 : Nat), v = .agg #[.string t.name, .slice A1 t.args.length c1] ∧ GCon.At w (Lt w.heap.size) A1 c1 t := by
  obtain ⟨cs, rfl, _⟩ := okWide_struct Try.underlying257 hv
  obtain ⟨fuel, hf⟩ := h
  obtain ⟨t, ht⟩ := openCon fuel _ _ hf
  obtain ⟨A1, c1, e, hat⟩ := GCon.rd ht
  have e2 : cs.toList = _ := e
  refine ⟨t, A1, c1, ?_, hat⟩
  congr 1
  apply Array.toList_inj.1
  rw [e2]

set_option maxRecDepth 20000 in
/-- an argument that is a slice of them -/
theorem argConS {H : Type} {enc : TypeId × Value → H} {w : World} {r : Reach} {base : Nat} {sp : Nat → Bool} {held : Bool} {v : Value} {d : DataW H} {p : List MemPlace} (hv : Value.okWide Try.prog w r base 115 v) (h : DataW.Trod enc Try.prog w 0 sp held 115 v d p) :
    ∃ (l : List GCon) (A : Option Addr) (c : Nat), v = .slice A l.length c ∧ Sl w (Lt w.heap.size) 2 A c (l.map GCon.toD) := by
  obtain ⟨a, len, cap, rfl⟩ := okWide_slice Try.underlying115 hv
  obtain ⟨fuel, hf⟩ := h
  obtain ⟨l, hl⟩ := open_sl 2 (by decide) Try.underlying115 (by kernel_rfl) GCon.toD (fun n2 cs x hn h => openCon n2 cs x h) hf
  obtain ⟨A, c, e, hs⟩ := D.rd_sl.1 hl
  simp only [Value.cells, List.cons.injEq, List.length_map, and_true] at e
  exact ⟨l, A, c, e, hs⟩
end Go.Proofs.Ytgbcdfeflgnogaa
