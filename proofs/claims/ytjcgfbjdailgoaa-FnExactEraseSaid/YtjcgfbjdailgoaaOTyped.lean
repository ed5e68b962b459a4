/- An argument of type Typed, as the statement reads it, is data in memory. Conditions: none. -/
import Derived.Test.YtjcgfbjdailgoaaRows
import Derived.Test.YtjcgfbjdailgoaaOpen
import Derived.Test.YtjcgfbjdailgoaaGTyped
import Derived.Test.YtjcgfbjdailgoaaOTy
namespace Go.Proofs.Ytjcgfbjdailgoaa
open Go.ChangeShapes Go.WideShapes Go.ChangeAt Go.RowKit Go.Deep
set_option linter.unusedVariables false
set_option linter.unusedSimpArgs false

set_option maxRecDepth 20000 in
theorem openTyped {H : Type} {enc : TypeId × Value → H} {w : World} {sp : Nat → Bool} {held : Bool} (fuel : Nat) : ∀ (cs : List Value) (x : DataW H × List MemPlace), DataW.trod enc Try.prog w 0 sp held fuel 28 cs = some x → ∃ t : GTyped, t.toD.rd w (Lt w.heap.size) cs := by
  induction fuel using Nat.strongRecOn with
  | _ fuel ih =>
  intro cs x h
  obtain ⟨xs, n, rfl, _, hl, hxl, hf⟩ := DataW.trod_struct Try.underlying28 h
  have hl2 : cs.length = 11 := hl.trans (by kernel_rfl)
  match cs, hl2 with
  | [v0, v1, v2, v3, v4, v5, v6, v7, v8, v9, v10], _ =>
  obtain ⟨z0, e0⟩ := fld hf hxl 0 3 0 1 rfl (by kernel_rfl)
  replace e0 : DataW.trod enc Try.prog w 0 sp held n 3 [v0] = some z0 := e0
  obtain ⟨z1, e1⟩ := fld hf hxl 1 3 1 1 rfl (by kernel_rfl)
  replace e1 : DataW.trod enc Try.prog w 0 sp held n 3 [v1] = some z1 := e1
  obtain ⟨z2, e2⟩ := fld hf hxl 2 9 2 1 rfl (by kernel_rfl)
  replace e2 : DataW.trod enc Try.prog w 0 sp held n 9 [v2] = some z2 := e2
  obtain ⟨z3, e3⟩ := fld hf hxl 3 9 3 1 rfl (by kernel_rfl)
  replace e3 : DataW.trod enc Try.prog w 0 sp held n 9 [v3] = some z3 := e3
  obtain ⟨z4, e4⟩ := fld hf hxl 4 24 4 4 rfl (by kernel_rfl)
  replace e4 : DataW.trod enc Try.prog w 0 sp held n 24 [v4, v5, v6, v7] = some z4 := e4
  obtain ⟨z5, e5⟩ := fld hf hxl 5 22 8 1 rfl (by kernel_rfl)
  replace e5 : DataW.trod enc Try.prog w 0 sp held n 22 [v8] = some z5 := e5
  obtain ⟨z6, e6⟩ := fld hf hxl 6 25 9 1 rfl (by kernel_rfl)
  replace e6 : DataW.trod enc Try.prog w 0 sp held n 25 [v9] = some z6 := e6
  obtain ⟨z7, e7⟩ := fld hf hxl 7 26 10 1 rfl (by kernel_rfl)
  replace e7 : DataW.trod enc Try.prog w 0 sp held n 26 [v10] = some z7 := e7
  obtain ⟨y0, a0, _, b0⟩ := DataW.trod_int Try.underlying3 e0
  obtain ⟨y1, a1, _, b1⟩ := DataW.trod_int Try.underlying3 e1
  obtain ⟨y2, a2, _, b2⟩ := DataW.trod_string Try.underlying9 e2
  obtain ⟨y3, a3, _, b3⟩ := DataW.trod_string Try.underlying9 e3
  obtain ⟨y4, a4⟩ := openTy n _ _ e4
  obtain ⟨y5, a5⟩ := open_sl 4 (by decide) Try.underlying22 (by kernel_rfl) GTy.toD (fun n2 cs x hn h => openTy n2 cs x h) e5
  obtain ⟨y6, a6⟩ := open_sl 1 (by decide) Try.underlying25 (by kernel_rfl) (D.num .i64) (fun n cs x _ h => open_int_el Try.underlying3 h) e6
  obtain ⟨y7, a7⟩ := open_sl 11 (by decide) Try.underlying26 (by kernel_rfl) GTyped.toD (fun n2 cs x hn h => ih n2 (by omega) cs x h) e7
  refine ⟨GTyped.mk y0 y1 y2 y3 y4 y5 y6 y7, ?_⟩
  simp only [GTyped.toD, GTyped.toDs_map]
  rw [D.rd_agg]
  exact D.rdF_cons.2 ⟨[v0], [v1, v2, v3, v4, v5, v6, v7, v8, v9, v10], rfl, D.rd_num.2 ⟨a0, b0⟩, D.rdF_cons.2 ⟨[v1], [v2, v3, v4, v5, v6, v7, v8, v9, v10], rfl, D.rd_num.2 ⟨a1, b1⟩, D.rdF_cons.2 ⟨[v2], [v3, v4, v5, v6, v7, v8, v9, v10], rfl, D.rd_str.2 ⟨a2, b2⟩, D.rdF_cons.2 ⟨[v3], [v4, v5, v6, v7, v8, v9, v10], rfl, D.rd_str.2 ⟨a3, b3⟩, D.rdF_cons.2 ⟨[v4, v5, v6, v7], [v8, v9, v10], rfl, a4, D.rdF_cons.2 ⟨[v8], [v9, v10], rfl, a5, D.rdF_cons.2 ⟨[v9], [v10], rfl, a6, D.rdF_cons.2 ⟨[v10], [], rfl, a7, D.rdF_nil.2 rfl⟩⟩⟩⟩⟩⟩⟩⟩

set_option maxRecDepth 20000 in
/-- the argument itself -/
theorem argTyped {H : Type} {enc : TypeId × Value → H} {w : World} {r : Reach} {base : Nat} {sp : Nat → Bool} {held : Bool} {v : Value} {d : DataW H} {p : List MemPlace} (hv : Value.okWide Try.prog w r base 28 v) (h : DataW.Trod enc Try.prog w 0 sp held 28 v d p) :
    ∃ (t : GTyped) (A1 : Option Addr) (c1 : Nat) (A2 : Option Addr) (c2 : Nat) (A3 : Option Addr) (c3 : Nat) (A4 : Option Addr) (c4 : Nat), v = .agg #[.int .i64 t.op, .int .i64 t.n, .string t.s, .string t.t, .int .i64 t.ty.op, .int .i64 t.ty.n, .string t.ty.s, .slice A1 t.ty.kids.length c1, .slice A2 t.inst.length c2, .slice A3 t.vars.length c3, .slice A4 t.kids.length c4] ∧ GTyped.At w (Lt w.heap.size) A1 c1 A2 c2 A3 c3 A4 c4 t := by
  obtain ⟨cs, rfl, _⟩ := okWide_struct Try.underlying28 hv
  obtain ⟨fuel, hf⟩ := h
  obtain ⟨t, ht⟩ := openTyped fuel _ _ hf
  obtain ⟨A1, c1, A2, c2, A3, c3, A4, c4, e, hat⟩ := GTyped.rd ht
  have e2 : cs.toList = _ := e
  refine ⟨t, A1, c1, A2, c2, A3, c3, A4, c4, ?_, hat⟩
  congr 1
  apply Array.toList_inj.1
  rw [e2]

set_option maxRecDepth 20000 in
/-- an argument that is a slice of them -/
theorem argTypedS {H : Type} {enc : TypeId × Value → H} {w : World} {r : Reach} {base : Nat} {sp : Nat → Bool} {held : Bool} {v : Value} {d : DataW H} {p : List MemPlace} (hv : Value.okWide Try.prog w r base 26 v) (h : DataW.Trod enc Try.prog w 0 sp held 26 v d p) :
    ∃ (l : List GTyped) (A : Option Addr) (c : Nat), v = .slice A l.length c ∧ Sl w (Lt w.heap.size) 11 A c (l.map GTyped.toD) := by
  obtain ⟨a, len, cap, rfl⟩ := okWide_slice Try.underlying26 hv
  obtain ⟨fuel, hf⟩ := h
  obtain ⟨l, hl⟩ := open_sl 11 (by decide) Try.underlying26 (by kernel_rfl) GTyped.toD (fun n2 cs x hn h => openTyped n2 cs x h) hf
  obtain ⟨A, c, e, hs⟩ := D.rd_sl.1 hl
  simp only [Value.cells, List.cons.injEq, List.length_map, and_true] at e
  exact ⟨l, A, c, e, hs⟩
end Go.Proofs.Ytjcgfbjdailgoaa
