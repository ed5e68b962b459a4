/- An argument of type Ty, as the statement reads it, is data in memory. Conditions: none. -/
import Derived.Test.YtgbcdfeflgnogaaRows
import Derived.Test.YtgbcdfeflgnogaaOpen
import Derived.Test.YtgbcdfeflgnogaaGTy
namespace Go.Proofs.Ytgbcdfeflgnogaa
open Go.ChangeShapes Go.WideShapes Go.ChangeAt Go.RowKit Go.Deep
set_option linter.unusedVariables false
set_option linter.unusedSimpArgs false

set_option maxRecDepth 20000 in
theorem openTy {H : Type} {enc : TypeId × Value → H} {w : World} {sp : Nat → Bool} {held : Bool} (fuel : Nat) : ∀ (cs : List Value) (x : DataW H × List MemPlace), DataW.trod enc Try.prog w 0 sp held fuel 104 cs = some x → ∃ t : GTy, t.toD.rd w (Lt w.heap.size) cs := by
  induction fuel using Nat.strongRecOn with
  | _ fuel ih =>
  intro cs x h
  obtain ⟨xs, n, rfl, _, hl, hxl, hf⟩ := DataW.trod_struct Try.underlying104 h
  have hl2 : cs.length = 4 := hl.trans (by kernel_rfl)
  match cs, hl2 with
  | [v0, v1, v2, v3], _ =>
  obtain ⟨z0, e0⟩ := fld hf hxl 0 3 0 1 rfl (by kernel_rfl)
  replace e0 : DataW.trod enc Try.prog w 0 sp held n 3 [v0] = some z0 := e0
  obtain ⟨z1, e1⟩ := fld hf hxl 1 3 1 1 rfl (by kernel_rfl)
  replace e1 : DataW.trod enc Try.prog w 0 sp held n 3 [v1] = some z1 := e1
  obtain ⟨z2, e2⟩ := fld hf hxl 2 9 2 1 rfl (by kernel_rfl)
  replace e2 : DataW.trod enc Try.prog w 0 sp held n 9 [v2] = some z2 := e2
  obtain ⟨z3, e3⟩ := fld hf hxl 3 102 3 1 rfl (by kernel_rfl)
  replace e3 : DataW.trod enc Try.prog w 0 sp held n 102 [v3] = some z3 := e3
  obtain ⟨y0, a0, _, b0⟩ := DataW.trod_int Try.underlying3 e0
  obtain ⟨y1, a1, _, b1⟩ := DataW.trod_int Try.underlying3 e1
  obtain ⟨y2, a2, _, b2⟩ := DataW.trod_string Try.underlying9 e2
  obtain ⟨y3, a3⟩ := open_sl 4 (by decide) Try.underlying102 (by kernel_rfl) GTy.toD (fun n2 cs x hn h => ih n2 (by omega) cs x h) e3
  refine ⟨GTy.mk y0 y1 y2 y3, ?_⟩
  simp only [GTy.toD, GTy.toDs_map]
  rw [D.rd_agg]
  exact D.rdF_cons.2 ⟨[v0], [v1, v2, v3], rfl, D.rd_num.2 ⟨a0, b0⟩, D.rdF_cons.2 ⟨[v1], [v2, v3], rfl, D.rd_num.2 ⟨a1, b1⟩, D.rdF_cons.2 ⟨[v2], [v3], rfl, D.rd_str.2 ⟨a2, b2⟩, D.rdF_cons.2 ⟨[v3], [], rfl, a3, D.rdF_nil.2 rfl⟩⟩⟩⟩

set_option maxRecDepth 20000 in
/-- the argument itself -/
theorem argTy {H : Type} {enc : TypeId × Value → H} {w : World} {r : Reach} {base : Nat} {sp : Nat → Bool} {held : Bool} {v : Value} {d : DataW H} {p : List MemPlace} (hv : Value.okWide Try.prog w r base 104 v) (h : DataW.Trod enc Try.prog w 0 sp held 104 v d p) :
    ∃ (t : GTy) (A1 : Option Addr) (c1 : Nat), v = .agg #[.int .i64 t.op, .int .i64 t.n, .string t.s, .slice A1 t.kids.length c1] ∧ GTy.At w (Lt w.heap.size) A1 c1 t := by
  obtain ⟨cs, rfl, _⟩ := okWide_struct Try.underlying104 hv
  obtain ⟨fuel, hf⟩ := h
  obtain ⟨t, ht⟩ := openTy fuel _ _ hf
  obtain ⟨A1, c1, e, hat⟩ := GTy.rd ht
  have e2 : cs.toList = _ := e
  refine ⟨t, A1, c1, ?_, hat⟩
  congr 1
  apply Array.toList_inj.1
  rw [e2]

set_option maxRecDepth 20000 in
/-- an argument that is a slice of them -/
theorem argTyS {H : Type} {enc : TypeId × Value → H} {w : World} {r : Reach} {base : Nat} {sp : Nat → Bool} {held : Bool} {v : Value} {d : DataW H} {p : List MemPlace} (hv : Value.okWide Try.prog w r base 102 v) (h : DataW.Trod enc Try.prog w 0 sp held 102 v d p) :
    ∃ (l : List GTy) (A : Option Addr) (c : Nat), v = .slice A l.length c ∧ Sl w (Lt w.heap.size) 4 A c (l.map GTy.toD) := by
  obtain ⟨a, len, cap, rfl⟩ := okWide_slice Try.underlying102 hv
  obtain ⟨fuel, hf⟩ := h
  obtain ⟨l, hl⟩ := open_sl 4 (by decide) Try.underlying102 (by kernel_rfl) GTy.toD (fun n2 cs x hn h => openTy n2 cs x h) hf
  obtain ⟨A, c, e, hs⟩ := D.rd_sl.1 hl
  simp only [Value.cells, List.cons.injEq, List.length_map, and_true] at e
  exact ⟨l, A, c, e, hs⟩
end Go.Proofs.Ytgbcdfeflgnogaa
