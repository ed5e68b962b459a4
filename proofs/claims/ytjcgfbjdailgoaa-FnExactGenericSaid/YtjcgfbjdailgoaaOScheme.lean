/- An argument of type Scheme, as the statement reads it, is data in memory. Conditions: none. -/
import Derived.Test.YtjcgfbjdailgoaaRows
import Derived.Test.YtjcgfbjdailgoaaOpen
import Derived.Test.YtjcgfbjdailgoaaGScheme
import Derived.Test.YtjcgfbjdailgoaaOTy
namespace Go.Proofs.Ytjcgfbjdailgoaa
open Go.ChangeShapes Go.WideShapes Go.ChangeAt Go.RowKit Go.Deep
set_option linter.unusedVariables false
set_option linter.unusedSimpArgs false

set_option maxRecDepth 20000 in
theorem openScheme {H : Type} {enc : TypeId × Value → H} {w : World} {sp : Nat → Bool} {held : Bool} (fuel : Nat) : ∀ (cs : List Value) (x : DataW H × List MemPlace), DataW.trod enc Try.prog w 0 sp held fuel 206 cs = some x → ∃ t : GScheme, t.toD.rd w (Lt w.heap.size) cs := by
  induction fuel using Nat.strongRecOn with
  | _ fuel ih =>
  intro cs x h
  obtain ⟨xs, n, rfl, _, hl, hxl, hf⟩ := DataW.trod_struct Try.underlying206 h
  have hl2 : cs.length = 5 := hl.trans (by kernel_rfl)
  match cs, hl2 with
  | [v0, v1, v2, v3, v4], _ =>
  obtain ⟨z0, e0⟩ := fld hf hxl 0 25 0 1 rfl (by kernel_rfl)
  replace e0 : DataW.trod enc Try.prog w 0 sp held n 25 [v0] = some z0 := e0
  obtain ⟨z1, e1⟩ := fld hf hxl 1 24 1 4 rfl (by kernel_rfl)
  replace e1 : DataW.trod enc Try.prog w 0 sp held n 24 [v1, v2, v3, v4] = some z1 := e1
  obtain ⟨y0, a0⟩ := open_sl 1 (by decide) Try.underlying25 (by kernel_rfl) (D.num .i64) (fun n cs x _ h => open_int_el Try.underlying3 h) e0
  obtain ⟨y1, a1⟩ := openTy n _ _ e1
  refine ⟨⟨y0, y1⟩, ?_⟩
  unfold GScheme.toD
  rw [D.rd_agg]
  exact D.rdF_cons.2 ⟨[v0], [v1, v2, v3, v4], rfl, a0, D.rdF_cons.2 ⟨[v1, v2, v3, v4], [], rfl, a1, D.rdF_nil.2 rfl⟩⟩

set_option maxRecDepth 20000 in
/-- the argument itself -/
theorem argScheme {H : Type} {enc : TypeId × Value → H} {w : World} {r : Reach} {base : Nat} {sp : Nat → Bool} {held : Bool} {v : Value} {d : DataW H} {p : List MemPlace} (hv : Value.okWide Try.prog w r base 206 v) (h : DataW.Trod enc Try.prog w 0 sp held 206 v d p) :
    ∃ (t : GScheme) (A1 : Option Addr) (c1 : Nat) (A2 : Option Addr) (c2 : Nat), v = .agg #[.slice A1 t.vars.length c1, .int .i64 t.ty.op, .int .i64 t.ty.n, .string t.ty.s, .slice A2 t.ty.kids.length c2] ∧ GScheme.At w (Lt w.heap.size) A1 c1 A2 c2 t := by
  obtain ⟨cs, rfl, _⟩ := okWide_struct Try.underlying206 hv
  obtain ⟨fuel, hf⟩ := h
  obtain ⟨t, ht⟩ := openScheme fuel _ _ hf
  obtain ⟨A1, c1, A2, c2, e, hat⟩ := GScheme.rd ht
  have e2 : cs.toList = _ := e
  refine ⟨t, A1, c1, A2, c2, ?_, hat⟩
  congr 1
  apply Array.toList_inj.1
  rw [e2]

set_option maxRecDepth 20000 in
/-- an argument that is a slice of them -/
theorem argSchemeS {H : Type} {enc : TypeId × Value → H} {w : World} {r : Reach} {base : Nat} {sp : Nat → Bool} {held : Bool} {v : Value} {d : DataW H} {p : List MemPlace} (hv : Value.okWide Try.prog w r base 113 v) (h : DataW.Trod enc Try.prog w 0 sp held 113 v d p) :
    ∃ (l : List GScheme) (A : Option Addr) (c : Nat), v = .slice A l.length c ∧ Sl w (Lt w.heap.size) 5 A c (l.map GScheme.toD) := by
  obtain ⟨a, len, cap, rfl⟩ := okWide_slice Try.underlying113 hv
  obtain ⟨fuel, hf⟩ := h
  obtain ⟨l, hl⟩ := open_sl 5 (by decide) Try.underlying113 (by kernel_rfl) GScheme.toD (fun n2 cs x hn h => openScheme n2 cs x h) hf
  obtain ⟨A, c, e, hs⟩ := D.rd_sl.1 hl
  simp only [Value.cells, List.cons.injEq, List.length_map, and_true] at e
  exact ⟨l, A, c, e, hs⟩
end Go.Proofs.Ytjcgfbjdailgoaa
