/- Several texts of this claim in one: OTy OCon OData ONode OProg. Conditions: none but bounds on sizes. -/
import Derived.Test.YtgbcdfeflgnogaaRows
import Derived.Test.YtgbcdfeflgnogaaOpen
import Derived.Test.YtgbcdfeflgnogaaGTy
import Derived.Test.YtgbcdfeflgnogaaGCon
import Derived.Test.YtgbcdfeflgnogaaGData
import Derived.Test.YtgbcdfeflgnogaaGNode
import Derived.Test.YtgbcdfeflgnogaaGProg
/- An argument of type Ty, as the statement reads it, is data in memory. Conditions: none. -/
namespace Go.Proofs.Ytgbcdfeflgnogaa
open Go.ChangeShapes Go.WideShapes Go.ChangeAt Go.RowKit Go.Deep
set_option linter.unusedVariables false
set_option linter.unusedSimpArgs false

set_option maxRecDepth 20000 in
theorem openTy {H : Type} {enc : TypeId × Value → H} {w : World} {sp : Nat → Bool} {held : Bool} (fuel : Nat) : ∀ (cs : List Value) (x : DataW H × List MemPlace), DataW.trod enc Try.prog w 0 sp held fuel 104 cs = some x → ∃ t : GTy, t.toD.rd w (Lt w.heap.size) cs := by
  induction fuel using Nat.strongRecOn with
  | _ fuel ih =>
  intro cs x h
  obtain ⟨xs, n, rfl, _, hl, hxl, hf⟩ := DataW.trod_struct Try.underlying104 h
  have hl2 : cs.length = 4 := hl.trans (by kernel_rfl)
  match cs, hl2 with
  | [v0, v1, v2, v3], _ =>
  obtain ⟨z0, e0⟩ := fld hf hxl 0 3 0 1 rfl (by kernel_rfl)
  replace e0 : DataW.trod enc Try.prog w 0 sp held n 3 [v0] = some z0 := e0
  obtain ⟨z1, e1⟩ := fld hf hxl 1 3 1 1 rfl (by kernel_rfl)
  replace e1 : DataW.trod enc Try.prog w 0 sp held n 3 [v1] = some z1 := e1
  obtain ⟨z2, e2⟩ := fld hf hxl 2 9 2 1 rfl (by kernel_rfl)
  replace e2 : DataW.trod enc Try.prog w 0 sp held n 9 [v2] = some z2 := e2
  obtain ⟨z3, e3⟩ := fld hf hxl 3 102 3 1 rfl (by kernel_rfl)
  replace e3 : DataW.trod enc Try.prog w 0 sp held n 102 [v3] = some z3 := e3
  obtain ⟨y0, a0, _, b0⟩ := DataW.trod_int Try.underlying3 e0
  obtain ⟨y1, a1, _, b1⟩ := DataW.trod_int Try.underlying3 e1
  obtain ⟨y2, a2, _, b2⟩ := DataW.trod_string Try.underlying9 e2
  obtain ⟨y3, a3⟩ := open_sl 4 (by decide) Try.underlying102 (by kernel_rfl) GTy.toD (fun n2 cs x hn h => ih n2 (by omega) cs x h) e3
  refine ⟨GTy.mk y0 y1 y2 y3, ?_⟩
  simp only [GTy.toD, GTy.toDs_map]
  rw [D.rd_agg]
  exact D.rdF_cons.2 ⟨[v0], [v1, v2, v3], rfl, D.rd_num.2 ⟨a0, b0⟩, D.rdF_cons.2 ⟨[v1], [v2, v3], rfl, D.rd_num.2 ⟨a1, b1⟩, D.rdF_cons.2 ⟨[v2], [v3], rfl, D.rd_str.2 ⟨a2, b2⟩, D.rdF_cons.2 ⟨[v3], [], rfl, a3, D.rdF_nil.2 rfl⟩⟩⟩⟩

set_option maxRecDepth 20000 in
/-- the argument itself -/
theorem argTy {H : Type} {enc : TypeId × Value → H} {w : World} {r : Reach} {base : Nat} {sp : Nat → Bool} {held : Bool} {v : Value} {d : DataW H} {p : List MemPlace} (hv : Value.okWide Try.prog w r base 104 v) (h : DataW.Trod enc Try.prog w 0 sp held 104 v d p) :
    ∃ (t : GTy) (A1 : Option Addr) (c1 : Nat), v = .agg #[.int .i64 t.op, .int .i64 t.n, .string t.s, .slice A1 t.kids.length c1] ∧ GTy.At w (Lt w.heap.size) A1 c1 t := by
  obtain ⟨cs, rfl, _⟩ := okWide_struct Try.underlying104 hv
  obtain ⟨fuel, hf⟩ := h
  obtain ⟨t, ht⟩ := openTy fuel _ _ hf
  obtain ⟨A1, c1, e, hat⟩ := GTy.rd ht
  have e2 : cs.toList = _ := e
  refine ⟨t, A1, c1, ?_, hat⟩
  congr 1
  apply Array.toList_inj.1
  rw [e2]

set_option maxRecDepth 20000 in
/-- an argument that is a slice of them -/
theorem argTyS {H : Type} {enc : TypeId × Value → H} {w : World} {r : Reach} {base : Nat} {sp : Nat → Bool} {held : Bool} {v : Value} {d : DataW H} {p : List MemPlace} (hv : Value.okWide Try.prog w r base 102 v) (h : DataW.Trod enc Try.prog w 0 sp held 102 v d p) :
    ∃ (l : List GTy) (A : Option Addr) (c : Nat), v = .slice A l.length c ∧ Sl w (Lt w.heap.size) 4 A c (l.map GTy.toD) := by
  obtain ⟨a, len, cap, rfl⟩ := okWide_slice Try.underlying102 hv
  obtain ⟨fuel, hf⟩ := h
  obtain ⟨l, hl⟩ := open_sl 4 (by decide) Try.underlying102 (by kernel_rfl) GTy.toD (fun n2 cs x hn h => openTy n2 cs x h) hf
  obtain ⟨A, c, e, hs⟩ := D.rd_sl.1 hl
  simp only [Value.cells, List.cons.injEq, List.length_map, and_true] at e
  exact ⟨l, A, c, e, hs⟩
end Go.Proofs.Ytgbcdfeflgnogaa

/- An argument of type Con, as the statement reads it, is data in memory. Conditions: none. -/
namespace Go.Proofs.Ytgbcdfeflgnogaa
open Go.ChangeShapes Go.WideShapes Go.ChangeAt Go.RowKit Go.Deep
set_option linter.unusedVariables false
set_option linter.unusedSimpArgs false

set_option maxRecDepth 20000 in
theorem openCon {H : Type} {enc : TypeId × Value → H} {w : World} {sp : Nat → Bool} {held : Bool} (fuel : Nat) : ∀ (cs : List Value) (x : DataW H × List MemPlace), DataW.trod enc Try.prog w 0 sp held fuel 257 cs = some x → ∃ t : GCon, t.toD.rd w (Lt w.heap.size) cs := by
  induction fuel using Nat.strongRecOn with
  | _ fuel ih =>
  intro cs x h
  obtain ⟨xs, n, rfl, _, hl, hxl, hf⟩ := DataW.trod_struct Try.underlying257 h
  have hl2 : cs.length = 2 := hl.trans (by kernel_rfl)
  match cs, hl2 with
  | [v0, v1], _ =>
  obtain ⟨z0, e0⟩ := fld hf hxl 0 9 0 1 rfl (by kernel_rfl)
  replace e0 : DataW.trod enc Try.prog w 0 sp held n 9 [v0] = some z0 := e0
  obtain ⟨z1, e1⟩ := fld hf hxl 1 102 1 1 rfl (by kernel_rfl)
  replace e1 : DataW.trod enc Try.prog w 0 sp held n 102 [v1] = some z1 := e1
  obtain ⟨y0, a0, _, b0⟩ := DataW.trod_string Try.underlying9 e0
  obtain ⟨y1, a1⟩ := open_sl 4 (by decide) Try.underlying102 (by kernel_rfl) GTy.toD (fun n2 cs x hn h => openTy n2 cs x h) e1
  refine ⟨⟨y0, y1⟩, ?_⟩
  unfold GCon.toD
  rw [D.rd_agg]
  exact D.rdF_cons.2 ⟨[v0], [v1], rfl, D.rd_str.2 ⟨a0, b0⟩, D.rdF_cons.2 ⟨[v1], [], rfl, a1, D.rdF_nil.2 rfl⟩⟩

set_option maxRecDepth 20000 in
/-- the argument itself -/
theorem argCon {H : Type} {enc : TypeId × Value → H} {w : World} {r : Reach} {base : Nat} {sp : Nat → Bool} {held : Bool} {v : Value} {d : DataW H} {p : List MemPlace} (hv : Value.okWide Try.prog w r base 257 v) (h : DataW.Trod enc Try.prog w 0 sp held 257 v d p) :
    ∃ (t : GCon) (A1 : Option Addr) (c1 : Nat), v = .agg #[.string t.name, .slice A1 t.args.length c1] ∧ GCon.At w (Lt w.heap.size) A1 c1 t := by
  obtain ⟨cs, rfl, _⟩ := okWide_struct Try.underlying257 hv
  obtain ⟨fuel, hf⟩ := h
  obtain ⟨t, ht⟩ := openCon fuel _ _ hf
  obtain ⟨A1, c1, e, hat⟩ := GCon.rd ht
  have e2 : cs.toList = _ := e
  refine ⟨t, A1, c1, ?_, hat⟩
  congr 1
  apply Array.toList_inj.1
  rw [e2]

set_option maxRecDepth 20000 in
/-- an argument that is a slice of them -/
theorem argConS {H : Type} {enc : TypeId × Value → H} {w : World} {r : Reach} {base : Nat} {sp : Nat → Bool} {held : Bool} {v : Value} {d : DataW H} {p : List MemPlace} (hv : Value.okWide Try.prog w r base 115 v) (h : DataW.Trod enc Try.prog w 0 sp held 115 v d p) :
    ∃ (l : List GCon) (A : Option Addr) (c : Nat), v = .slice A l.length c ∧ Sl w (Lt w.heap.size) 2 A c (l.map GCon.toD) := by
  obtain ⟨a, len, cap, rfl⟩ := okWide_slice Try.underlying115 hv
  obtain ⟨fuel, hf⟩ := h
  obtain ⟨l, hl⟩ := open_sl 2 (by decide) Try.underlying115 (by kernel_rfl) GCon.toD (fun n2 cs x hn h => openCon n2 cs x h) hf
  obtain ⟨A, c, e, hs⟩ := D.rd_sl.1 hl
  simp only [Value.cells, List.cons.injEq, List.length_map, and_true] at e
  exact ⟨l, A, c, e, hs⟩
end Go.Proofs.Ytgbcdfeflgnogaa

/- An argument of type Data, as the statement reads it, is data in memory. Conditions: none. -/
namespace Go.Proofs.Ytgbcdfeflgnogaa
open Go.ChangeShapes Go.WideShapes Go.ChangeAt Go.RowKit Go.Deep
set_option linter.unusedVariables false
set_option linter.unusedSimpArgs false

set_option maxRecDepth 20000 in
theorem openData {H : Type} {enc : TypeId × Value → H} {w : World} {sp : Nat → Bool} {held : Bool} (fuel : Nat) : ∀ (cs : List Value) (x : DataW H × List MemPlace), DataW.trod enc Try.prog w 0 sp held fuel 117 cs = some x → ∃ t : GData, t.toD.rd w (Lt w.heap.size) cs := by
  induction fuel using Nat.strongRecOn with
  | _ fuel ih =>
  intro cs x h
  obtain ⟨xs, n, rfl, _, hl, hxl, hf⟩ := DataW.trod_struct Try.underlying117 h
  have hl2 : cs.length = 3 := hl.trans (by kernel_rfl)
  match cs, hl2 with
  | [v0, v1, v2], _ =>
  obtain ⟨z0, e0⟩ := fld hf hxl 0 9 0 1 rfl (by kernel_rfl)
  replace e0 : DataW.trod enc Try.prog w 0 sp held n 9 [v0] = some z0 := e0
  obtain ⟨z1, e1⟩ := fld hf hxl 1 3 1 1 rfl (by kernel_rfl)
  replace e1 : DataW.trod enc Try.prog w 0 sp held n 3 [v1] = some z1 := e1
  obtain ⟨z2, e2⟩ := fld hf hxl 2 115 2 1 rfl (by kernel_rfl)
  replace e2 : DataW.trod enc Try.prog w 0 sp held n 115 [v2] = some z2 := e2
  obtain ⟨y0, a0, _, b0⟩ := DataW.trod_string Try.underlying9 e0
  obtain ⟨y1, a1, _, b1⟩ := DataW.trod_int Try.underlying3 e1
  obtain ⟨y2, a2⟩ := open_sl 2 (by decide) Try.underlying115 (by kernel_rfl) GCon.toD (fun n2 cs x hn h => openCon n2 cs x h) e2
  refine ⟨⟨y0, y1, y2⟩, ?_⟩
  unfold GData.toD
  rw [D.rd_agg]
  exact D.rdF_cons.2 ⟨[v0], [v1, v2], rfl, D.rd_str.2 ⟨a0, b0⟩, D.rdF_cons.2 ⟨[v1], [v2], rfl, D.rd_num.2 ⟨a1, b1⟩, D.rdF_cons.2 ⟨[v2], [], rfl, a2, D.rdF_nil.2 rfl⟩⟩⟩

set_option maxRecDepth 20000 in
/-- the argument itself -/
theorem argData {H : Type} {enc : TypeId × Value → H} {w : World} {r : Reach} {base : Nat} {sp : Nat → Bool} {held : Bool} {v : Value} {d : DataW H} {p : List MemPlace} (hv : Value.okWide Try.prog w r base 117 v) (h : DataW.Trod enc Try.prog w 0 sp held 117 v d p) :
    ∃ (t : GData) (A1 : Option Addr) (c1 : Nat), v = .agg #[.string t.name, .int .i64 t.vars, .slice A1 t.cons.length c1] ∧ GData.At w (Lt w.heap.size) A1 c1 t := by
  obtain ⟨cs, rfl, _⟩ := okWide_struct Try.underlying117 hv
  obtain ⟨fuel, hf⟩ := h
  obtain ⟨t, ht⟩ := openData fuel _ _ hf
  obtain ⟨A1, c1, e, hat⟩ := GData.rd ht
  have e2 : cs.toList = _ := e
  refine ⟨t, A1, c1, ?_, hat⟩
  congr 1
  apply Array.toList_inj.1
  rw [e2]

set_option maxRecDepth 20000 in
/-- an argument that is a slice of them -/
theorem argDataS {H : Type} {enc : TypeId × Value → H} {w : World} {r : Reach} {base : Nat} {sp : Nat → Bool} {held : Bool} {v : Value} {d : DataW H} {p : List MemPlace} (hv : Value.okWide Try.prog w r base 22 v) (h : DataW.Trod enc Try.prog w 0 sp held 22 v d p) :
    ∃ (l : List GData) (A : Option Addr) (c : Nat), v = .slice A l.length c ∧ Sl w (Lt w.heap.size) 3 A c (l.map GData.toD) := by
  obtain ⟨a, len, cap, rfl⟩ := okWide_slice Try.underlying22 hv
  obtain ⟨fuel, hf⟩ := h
  obtain ⟨l, hl⟩ := open_sl 3 (by decide) Try.underlying22 (by kernel_rfl) GData.toD (fun n2 cs x hn h => openData n2 cs x h) hf
  obtain ⟨A, c, e, hs⟩ := D.rd_sl.1 hl
  simp only [Value.cells, List.cons.injEq, List.length_map, and_true] at e
  exact ⟨l, A, c, e, hs⟩
end Go.Proofs.Ytgbcdfeflgnogaa

/- An argument of type Node, as the statement reads it, is data in memory. Conditions: none. -/
namespace Go.Proofs.Ytgbcdfeflgnogaa
open Go.ChangeShapes Go.WideShapes Go.ChangeAt Go.RowKit Go.Deep
set_option linter.unusedVariables false
set_option linter.unusedSimpArgs false

set_option maxRecDepth 20000 in
theorem openNode {H : Type} {enc : TypeId × Value → H} {w : World} {sp : Nat → Bool} {held : Bool} (fuel : Nat) : ∀ (cs : List Value) (x : DataW H × List MemPlace), DataW.trod enc Try.prog w 0 sp held fuel 43 cs = some x → ∃ t : GNode, t.toD.rd w (Lt w.heap.size) cs := by
  induction fuel using Nat.strongRecOn with
  | _ fuel ih =>
  intro cs x h
  obtain ⟨xs, n, rfl, _, hl, hxl, hf⟩ := DataW.trod_struct Try.underlying43 h
  have hl2 : cs.length = 5 := hl.trans (by kernel_rfl)
  match cs, hl2 with
  | [v0, v1, v2, v3, v4], _ =>
  obtain ⟨z0, e0⟩ := fld hf hxl 0 3 0 1 rfl (by kernel_rfl)
  replace e0 : DataW.trod enc Try.prog w 0 sp held n 3 [v0] = some z0 := e0
  obtain ⟨z1, e1⟩ := fld hf hxl 1 3 1 1 rfl (by kernel_rfl)
  replace e1 : DataW.trod enc Try.prog w 0 sp held n 3 [v1] = some z1 := e1
  obtain ⟨z2, e2⟩ := fld hf hxl 2 9 2 1 rfl (by kernel_rfl)
  replace e2 : DataW.trod enc Try.prog w 0 sp held n 9 [v2] = some z2 := e2
  obtain ⟨z3, e3⟩ := fld hf hxl 3 9 3 1 rfl (by kernel_rfl)
  replace e3 : DataW.trod enc Try.prog w 0 sp held n 9 [v3] = some z3 := e3
  obtain ⟨z4, e4⟩ := fld hf hxl 4 23 4 1 rfl (by kernel_rfl)
  replace e4 : DataW.trod enc Try.prog w 0 sp held n 23 [v4] = some z4 := e4
  obtain ⟨y0, a0, _, b0⟩ := DataW.trod_int Try.underlying3 e0
  obtain ⟨y1, a1, _, b1⟩ := DataW.trod_int Try.underlying3 e1
  obtain ⟨y2, a2, _, b2⟩ := DataW.trod_string Try.underlying9 e2
  obtain ⟨y3, a3, _, b3⟩ := DataW.trod_string Try.underlying9 e3
  obtain ⟨y4, a4⟩ := open_sl 5 (by decide) Try.underlying23 (by kernel_rfl) GNode.toD (fun n2 cs x hn h => ih n2 (by omega) cs x h) e4
  refine ⟨GNode.mk y0 y1 y2 y3 y4, ?_⟩
  simp only [GNode.toD, GNode.toDs_map]
  rw [D.rd_agg]
  exact D.rdF_cons.2 ⟨[v0], [v1, v2, v3, v4], rfl, D.rd_num.2 ⟨a0, b0⟩, D.rdF_cons.2 ⟨[v1], [v2, v3, v4], rfl, D.rd_num.2 ⟨a1, b1⟩, D.rdF_cons.2 ⟨[v2], [v3, v4], rfl, D.rd_str.2 ⟨a2, b2⟩, D.rdF_cons.2 ⟨[v3], [v4], rfl, D.rd_str.2 ⟨a3, b3⟩, D.rdF_cons.2 ⟨[v4], [], rfl, a4, D.rdF_nil.2 rfl⟩⟩⟩⟩⟩

set_option maxRecDepth 20000 in
/-- the argument itself -/
theorem argNode {H : Type} {enc : TypeId × Value → H} {w : World} {r : Reach} {base : Nat} {sp : Nat → Bool} {held : Bool} {v : Value} {d : DataW H} {p : List MemPlace} (hv : Value.okWide Try.prog w r base 43 v) (h : DataW.Trod enc Try.prog w 0 sp held 43 v d p) :
    ∃ (t : GNode) (A1 : Option Addr) (c1 : Nat), v = .agg #[.int .i64 t.op, .int .i64 t.n, .string t.s, .string t.t, .slice A1 t.kids.length c1] ∧ GNode.At w (Lt w.heap.size) A1 c1 t := by
  obtain ⟨cs, rfl, _⟩ := okWide_struct Try.underlying43 hv
  obtain ⟨fuel, hf⟩ := h
  obtain ⟨t, ht⟩ := openNode fuel _ _ hf
  obtain ⟨A1, c1, e, hat⟩ := GNode.rd ht
  have e2 : cs.toList = _ := e
  refine ⟨t, A1, c1, ?_, hat⟩
  congr 1
  apply Array.toList_inj.1
  rw [e2]

set_option maxRecDepth 20000 in
/-- an argument that is a slice of them -/
theorem argNodeS {H : Type} {enc : TypeId × Value → H} {w : World} {r : Reach} {base : Nat} {sp : Nat → Bool} {held : Bool} {v : Value} {d : DataW H} {p : List MemPlace} (hv : Value.okWide Try.prog w r base 23 v) (h : DataW.Trod enc Try.prog w 0 sp held 23 v d p) :
    ∃ (l : List GNode) (A : Option Addr) (c : Nat), v = .slice A l.length c ∧ Sl w (Lt w.heap.size) 5 A c (l.map GNode.toD) := by
  obtain ⟨a, len, cap, rfl⟩ := okWide_slice Try.underlying23 hv
  obtain ⟨fuel, hf⟩ := h
  obtain ⟨l, hl⟩ := open_sl 5 (by decide) Try.underlying23 (by kernel_rfl) GNode.toD (fun n2 cs x hn h => openNode n2 cs x h) hf
  obtain ⟨A, c, e, hs⟩ := D.rd_sl.1 hl
  simp only [Value.cells, List.cons.injEq, List.length_map, and_true] at e
  exact ⟨l, A, c, e, hs⟩
end Go.Proofs.Ytgbcdfeflgnogaa

/- An argument of type Prog, as the statement reads it, is data in memory. Conditions: none. -/
namespace Go.Proofs.Ytgbcdfeflgnogaa
open Go.ChangeShapes Go.WideShapes Go.ChangeAt Go.RowKit Go.Deep
set_option linter.unusedVariables false
set_option linter.unusedSimpArgs false

set_option maxRecDepth 20000 in
theorem openProg {H : Type} {enc : TypeId × Value → H} {w : World} {sp : Nat → Bool} {held : Bool} (fuel : Nat) : ∀ (cs : List Value) (x : DataW H × List MemPlace), DataW.trod enc Try.prog w 0 sp held fuel 45 cs = some x → ∃ t : GProg, t.toD.rd w (Lt w.heap.size) cs := by
  induction fuel using Nat.strongRecOn with
  | _ fuel ih =>
  intro cs x h
  obtain ⟨xs, n, rfl, _, hl, hxl, hf⟩ := DataW.trod_struct Try.underlying45 h
  have hl2 : cs.length = 6 := hl.trans (by kernel_rfl)
  match cs, hl2 with
  | [v0, v1, v2, v3, v4, v5], _ =>
  obtain ⟨z0, e0⟩ := fld hf hxl 0 22 0 1 rfl (by kernel_rfl)
  replace e0 : DataW.trod enc Try.prog w 0 sp held n 22 [v0] = some z0 := e0
  obtain ⟨z1, e1⟩ := fld hf hxl 1 43 1 5 rfl (by kernel_rfl)
  replace e1 : DataW.trod enc Try.prog w 0 sp held n 43 [v1, v2, v3, v4, v5] = some z1 := e1
  obtain ⟨y0, a0⟩ := open_sl 3 (by decide) Try.underlying22 (by kernel_rfl) GData.toD (fun n2 cs x hn h => openData n2 cs x h) e0
  obtain ⟨y1, a1⟩ := openNode n _ _ e1
  refine ⟨⟨y0, y1⟩, ?_⟩
  unfold GProg.toD
  rw [D.rd_agg]
  exact D.rdF_cons.2 ⟨[v0], [v1, v2, v3, v4, v5], rfl, a0, D.rdF_cons.2 ⟨[v1, v2, v3, v4, v5], [], rfl, a1, D.rdF_nil.2 rfl⟩⟩

set_option maxRecDepth 20000 in
/-- the argument itself -/
theorem argProg {H : Type} {enc : TypeId × Value → H} {w : World} {r : Reach} {base : Nat} {sp : Nat → Bool} {held : Bool} {v : Value} {d : DataW H} {p : List MemPlace} (hv : Value.okWide Try.prog w r base 45 v) (h : DataW.Trod enc Try.prog w 0 sp held 45 v d p) :
    ∃ (t : GProg) (A1 : Option Addr) (c1 : Nat) (A2 : Option Addr) (c2 : Nat), v = .agg #[.slice A1 t.datas.length c1, .int .i64 t.main.op, .int .i64 t.main.n, .string t.main.s, .string t.main.t, .slice A2 t.main.kids.length c2] ∧ GProg.At w (Lt w.heap.size) A1 c1 A2 c2 t := by
  obtain ⟨cs, rfl, _⟩ := okWide_struct Try.underlying45 hv
  obtain ⟨fuel, hf⟩ := h
  obtain ⟨t, ht⟩ := openProg fuel _ _ hf
  obtain ⟨A1, c1, A2, c2, e, hat⟩ := GProg.rd ht
  have e2 : cs.toList = _ := e
  refine ⟨t, A1, c1, A2, c2, ?_, hat⟩
  congr 1
  apply Array.toList_inj.1
  rw [e2]

end Go.Proofs.Ytgbcdfeflgnogaa
