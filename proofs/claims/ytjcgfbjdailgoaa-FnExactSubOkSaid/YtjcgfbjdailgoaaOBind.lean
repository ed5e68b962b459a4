/- An argument of type Bind, as the statement reads it, is data in memory. Conditions: none. -/
import Derived.Test.YtjcgfbjdailgoaaRows
import Derived.Test.YtjcgfbjdailgoaaOpen
import Derived.Test.YtjcgfbjdailgoaaGBind
import Derived.Test.YtjcgfbjdailgoaaOTy
namespace Go.Proofs.Ytjcgfbjdailgoaa
open Go.ChangeShapes Go.WideShapes Go.ChangeAt Go.RowKit Go.Deep
set_option linter.unusedVariables false
set_option linter.unusedSimpArgs false

set_option maxRecDepth 20000 in
theorem openBind {H : Type} {enc : TypeId × Value → H} {w : World} {sp : Nat → Bool} {held : Bool} (fuel : Nat) : ∀ (cs : List Value) (x : DataW H × List MemPlace), DataW.trod enc Try.prog w 0 sp held fuel 195 cs = some x → ∃ t : GBind, t.toD.rd w (Lt w.heap.size) cs := by
  induction fuel using Nat.strongRecOn with
  | _ fuel ih =>
  intro cs x h
  obtain ⟨xs, n, rfl, _, hl, hxl, hf⟩ := DataW.trod_struct Try.underlying195 h
  have hl2 : cs.length = 5 := hl.trans (by kernel_rfl)
  match cs, hl2 with
  | [v0, v1, v2, v3, v4], _ =>
  obtain ⟨z0, e0⟩ := fld hf hxl 0 3 0 1 rfl (by kernel_rfl)
  replace e0 : DataW.trod enc Try.prog w 0 sp held n 3 [v0] = some z0 := e0
  obtain ⟨z1, e1⟩ := fld hf hxl 1 24 1 4 rfl (by kernel_rfl)
  replace e1 : DataW.trod enc Try.prog w 0 sp held n 24 [v1, v2, v3, v4] = some z1 := e1
  obtain ⟨y0, a0, _, b0⟩ := DataW.trod_int Try.underlying3 e0
  obtain ⟨y1, a1⟩ := openTy n _ _ e1
  refine ⟨⟨y0, y1⟩, ?_⟩
  unfold GBind.toD
  rw [D.rd_agg]
  exact D.rdF_cons.2 ⟨[v0], [v1, v2, v3, v4], rfl, D.rd_num.2 ⟨a0, b0⟩, D.rdF_cons.2 ⟨[v1, v2, v3, v4], [], rfl, a1, D.rdF_nil.2 rfl⟩⟩

set_option maxRecDepth 20000 in
/-- the argument itself -/
theorem argBind {H : Type} {enc : TypeId × Value → H} {w : World} {r : Reach} {base : Nat} {sp : Nat → Bool} {held : Bool} {v : Value} {d : DataW H} {p : List MemPlace} (hv : Value.okWide Try.prog w r base 195 v) (h : DataW.Trod enc Try.prog w 0 sp held 195 v d p) :
    ∃ (t : GBind) (A1 : Option Addr) (c1 : Nat), v = .agg #[.int .i64 t.n, .int .i64 t.ty.op, .int .i64 t.ty.n, .string t.ty.s, .slice A1 t.ty.kids.length c1] ∧ GBind.At w (Lt w.heap.size) A1 c1 t := by
  obtain ⟨cs, rfl, _⟩ := okWide_struct Try.underlying195 hv
  obtain ⟨fuel, hf⟩ := h
  obtain ⟨t, ht⟩ := openBind fuel _ _ hf
  obtain ⟨A1, c1, e, hat⟩ := GBind.rd ht
  have e2 : cs.toList = _ := e
  refine ⟨t, A1, c1, ?_, hat⟩
  congr 1
  apply Array.toList_inj.1
  rw [e2]

set_option maxRecDepth 20000 in
/-- an argument that is a slice of them -/
theorem argBindS {H : Type} {enc : TypeId × Value → H} {w : World} {r : Reach} {base : Nat} {sp : Nat → Bool} {held : Bool} {v : Value} {d : DataW H} {p : List MemPlace} (hv : Value.okWide Try.prog w r base 106 v) (h : DataW.Trod enc Try.prog w 0 sp held 106 v d p) :
    ∃ (l : List GBind) (A : Option Addr) (c : Nat), v = .slice A l.length c ∧ Sl w (Lt w.heap.size) 5 A c (l.map GBind.toD) := by
  obtain ⟨a, len, cap, rfl⟩ := okWide_slice Try.underlying106 hv
  obtain ⟨fuel, hf⟩ := h
  obtain ⟨l, hl⟩ := open_sl 5 (by decide) Try.underlying106 (by kernel_rfl) GBind.toD (fun n2 cs x hn h => openBind n2 cs x h) hf
  obtain ⟨A, c, e, hs⟩ := D.rd_sl.1 hl
  simp only [Value.cells, List.cons.injEq, List.length_map, and_true] at e
  exact ⟨l, A, c, e, hs⟩
end Go.Proofs.Ytjcgfbjdailgoaa
