/- Several texts of this claim in one: OData ONode OProg. Conditions: none but bounds on sizes. -/
import Derived.Test.YtgbcdfeflgnogaaGreatRows
import Derived.Test.YtgbcdfeflgnogaaGreatMg10
import Derived.Test.YtgbcdfeflgnogaaGreatMg5
import Derived.Test.YtgbcdfeflgnogaaGreatMg19
import Derived.Test.YtgbcdfeflgnogaaGreatMg2
import Derived.Test.YtgbcdfeflgnogaaGreatMg12
/- An argument of type Data, as the statement reads it, is data in memory. Conditions: none. -/
namespace Go.Proofs.YtgbcdfeflgnogaaGreat
open Go.ChangeShapes Go.WideShapes Go.ChangeAt Go.RowKit Go.Deep
set_option linter.unusedVariables false
set_option linter.unusedSimpArgs false

set_option maxRecDepth 20000 in
theorem openData {H : Type} {enc : TypeId × Value → H} {w : World} {sp : Nat → Bool} {held : Bool} (fuel : Nat) : ∀ (cs : List Value) (x : DataW H × List MemPlace), DataW.trod enc Tryz.prog w 0 sp held fuel 49 cs = some x → ∃ t : GData, t.toD.rd w (Lt w.heap.size) cs := by
  induction fuel using Nat.strongRecOn with
  | _ fuel ih =>
  intro cs x h
  obtain ⟨xs, n, rfl, _, hl, hxl, hf⟩ := DataW.trod_struct Tryz.underlying49 h
  have hl2 : cs.length = 3 := hl.trans (by kernel_rfl)
  match cs, hl2 with
  | [v0, v1, v2], _ =>
  obtain ⟨z0, e0⟩ := fld hf hxl 0 9 0 1 rfl (by kernel_rfl)
  replace e0 : DataW.trod enc Tryz.prog w 0 sp held n 9 [v0] = some z0 := e0
  obtain ⟨z1, e1⟩ := fld hf hxl 1 3 1 1 rfl (by kernel_rfl)
  replace e1 : DataW.trod enc Tryz.prog w 0 sp held n 3 [v1] = some z1 := e1
  obtain ⟨z2, e2⟩ := fld hf hxl 2 47 2 1 rfl (by kernel_rfl)
  replace e2 : DataW.trod enc Tryz.prog w 0 sp held n 47 [v2] = some z2 := e2
  obtain ⟨y0, a0, _, b0⟩ := DataW.trod_string Tryz.underlying9 e0
  obtain ⟨y1, a1, _, b1⟩ := DataW.trod_int Tryz.underlying3 e1
  obtain ⟨y2, a2⟩ := open_sl 2 (by decide) Tryz.underlying47 (by kernel_rfl) GCon.toD (fun n2 cs x hn h => openCon n2 cs x h) e2
  refine ⟨⟨y0, y1, y2⟩, ?_⟩
  unfold GData.toD
  rw [D.rd_agg]
  exact D.rdF_cons.2 ⟨[v0], [v1, v2], rfl, D.rd_str.2 ⟨a0, b0⟩, D.rdF_cons.2 ⟨[v1], [v2], rfl, D.rd_num.2 ⟨a1, b1⟩, D.rdF_cons.2 ⟨[v2], [], rfl, a2, D.rdF_nil.2 rfl⟩⟩⟩

set_option maxRecDepth 20000 in
/-- the argument itself -/
theorem argData {H : Type} {enc : TypeId × Value → H} {w : World} {r : Reach} {base : Nat} {sp : Nat → Bool} {held : Bool} {v : Value} {d : DataW H} {p : List MemPlace} (hv : Value.okWide Tryz.prog w r base 49 v) (h : DataW.Trod enc Tryz.prog w 0 sp held 49 v d p) :
    ∃ (t : GData) (A1 : Option Addr) (c1 : Nat), v = .agg #[.string t.name, .int .i64 t.vars, .slice A1 t.cons.length c1] ∧ GData.At w (Lt w.heap.size) A1 c1 t := by
  obtain ⟨cs, rfl, _⟩ := okWide_struct Tryz.underlying49 hv
  obtain ⟨fuel, hf⟩ := h
  obtain ⟨t, ht⟩ := openData fuel _ _ hf
  obtain ⟨A1, c1, e, hat⟩ := GData.rd ht
  have e2 : cs.toList = _ := e
  refine ⟨t, A1, c1, ?_, hat⟩
  congr 1
  apply Array.toList_inj.1
  rw [e2]

set_option maxRecDepth 20000 in
/-- an argument that is a slice of them -/
theorem argDataS {H : Type} {enc : TypeId × Value → H} {w : World} {r : Reach} {base : Nat} {sp : Nat → Bool} {held : Bool} {v : Value} {d : DataW H} {p : List MemPlace} (hv : Value.okWide Tryz.prog w r base 22 v) (h : DataW.Trod enc Tryz.prog w 0 sp held 22 v d p) :
    ∃ (l : List GData) (A : Option Addr) (c : Nat), v = .slice A l.length c ∧ Sl w (Lt w.heap.size) 3 A c (l.map GData.toD) := by
  obtain ⟨a, len, cap, rfl⟩ := okWide_slice Tryz.underlying22 hv
  obtain ⟨fuel, hf⟩ := h
  obtain ⟨l, hl⟩ := open_sl 3 (by decide) Tryz.underlying22 (by kernel_rfl) GData.toD (fun n2 cs x hn h => openData n2 cs x h) hf
  obtain ⟨A, c, e, hs⟩ := D.rd_sl.1 hl
  simp only [Value.cells, List.cons.injEq, List.length_map, and_true] at e
  exact ⟨l, A, c, e, hs⟩
end Go.Proofs.YtgbcdfeflgnogaaGreat

/- An argument of type Node, as the statement reads it, is data in memory. Conditions: none. -/
namespace Go.Proofs.YtgbcdfeflgnogaaGreat
open Go.ChangeShapes Go.WideShapes Go.ChangeAt Go.RowKit Go.Deep
set_option linter.unusedVariables false
set_option linter.unusedSimpArgs false

set_option maxRecDepth 20000 in
theorem openNode {H : Type} {enc : TypeId × Value → H} {w : World} {sp : Nat → Bool} {held : Bool} (fuel : Nat) : ∀ (cs : List Value) (x : DataW H × List MemPlace), DataW.trod enc Tryz.prog w 0 sp held fuel 25 cs = some x → ∃ t : GNode, t.toD.rd w (Lt w.heap.size) cs := by
  induction fuel using Nat.strongRecOn with
  | _ fuel ih =>
  intro cs x h
  obtain ⟨xs, n, rfl, _, hl, hxl, hf⟩ := DataW.trod_struct Tryz.underlying25 h
  have hl2 : cs.length = 5 := hl.trans (by kernel_rfl)
  match cs, hl2 with
  | [v0, v1, v2, v3, v4], _ =>
  obtain ⟨z0, e0⟩ := fld hf hxl 0 3 0 1 rfl (by kernel_rfl)
  replace e0 : DataW.trod enc Tryz.prog w 0 sp held n 3 [v0] = some z0 := e0
  obtain ⟨z1, e1⟩ := fld hf hxl 1 3 1 1 rfl (by kernel_rfl)
  replace e1 : DataW.trod enc Tryz.prog w 0 sp held n 3 [v1] = some z1 := e1
  obtain ⟨z2, e2⟩ := fld hf hxl 2 9 2 1 rfl (by kernel_rfl)
  replace e2 : DataW.trod enc Tryz.prog w 0 sp held n 9 [v2] = some z2 := e2
  obtain ⟨z3, e3⟩ := fld hf hxl 3 9 3 1 rfl (by kernel_rfl)
  replace e3 : DataW.trod enc Tryz.prog w 0 sp held n 9 [v3] = some z3 := e3
  obtain ⟨z4, e4⟩ := fld hf hxl 4 23 4 1 rfl (by kernel_rfl)
  replace e4 : DataW.trod enc Tryz.prog w 0 sp held n 23 [v4] = some z4 := e4
  obtain ⟨y0, a0, _, b0⟩ := DataW.trod_int Tryz.underlying3 e0
  obtain ⟨y1, a1, _, b1⟩ := DataW.trod_int Tryz.underlying3 e1
  obtain ⟨y2, a2, _, b2⟩ := DataW.trod_string Tryz.underlying9 e2
  obtain ⟨y3, a3, _, b3⟩ := DataW.trod_string Tryz.underlying9 e3
  obtain ⟨y4, a4⟩ := open_sl 5 (by decide) Tryz.underlying23 (by kernel_rfl) GNode.toD (fun n2 cs x hn h => ih n2 (by omega) cs x h) e4
  refine ⟨GNode.mk y0 y1 y2 y3 y4, ?_⟩
  simp only [GNode.toD, GNode.toDs_map]
  rw [D.rd_agg]
  exact D.rdF_cons.2 ⟨[v0], [v1, v2, v3, v4], rfl, D.rd_num.2 ⟨a0, b0⟩, D.rdF_cons.2 ⟨[v1], [v2, v3, v4], rfl, D.rd_num.2 ⟨a1, b1⟩, D.rdF_cons.2 ⟨[v2], [v3, v4], rfl, D.rd_str.2 ⟨a2, b2⟩, D.rdF_cons.2 ⟨[v3], [v4], rfl, D.rd_str.2 ⟨a3, b3⟩, D.rdF_cons.2 ⟨[v4], [], rfl, a4, D.rdF_nil.2 rfl⟩⟩⟩⟩⟩

set_option maxRecDepth 20000 in
/-- the argument itself -/
theorem argNode {H : Type} {enc : TypeId × Value → H} {w : World} {r : Reach} {base : Nat} {sp : Nat → Bool} {held : Bool} {v : Value} {d : DataW H} {p : List MemPlace} (hv : Value.okWide Tryz.prog w r base 25 v) (h : DataW.Trod enc Tryz.prog w 0 sp held 25 v d p) :
    ∃ (t : GNode) (A1 : Option Addr) (c1 : Nat), v = .agg #[.int .i64 t.op, .int .i64 t.n, .string t.s, .string t.t, .slice A1 t.kids.length c1] ∧ GNode.At w (Lt w.heap.size) A1 c1 t := by
  obtain ⟨cs, rfl, _⟩ := okWide_struct Tryz.underlying25 hv
  obtain ⟨fuel, hf⟩ := h
  obtain ⟨t, ht⟩ := openNode fuel _ _ hf
  obtain ⟨A1, c1, e, hat⟩ := GNode.rd ht
  have e2 : cs.toList = _ := e
  refine ⟨t, A1, c1, ?_, hat⟩
  congr 1
  apply Array.toList_inj.1
  rw [e2]

set_option maxRecDepth 20000 in
/-- an argument that is a slice of them -/
theorem argNodeS {H : Type} {enc : TypeId × Value → H} {w : World} {r : Reach} {base : Nat} {sp : Nat → Bool} {held : Bool} {v : Value} {d : DataW H} {p : List MemPlace} (hv : Value.okWide Tryz.prog w r base 23 v) (h : DataW.Trod enc Tryz.prog w 0 sp held 23 v d p) :
    ∃ (l : List GNode) (A : Option Addr) (c : Nat), v = .slice A l.length c ∧ Sl w (Lt w.heap.size) 5 A c (l.map GNode.toD) := by
  obtain ⟨a, len, cap, rfl⟩ := okWide_slice Tryz.underlying23 hv
  obtain ⟨fuel, hf⟩ := h
  obtain ⟨l, hl⟩ := open_sl 5 (by decide) Tryz.underlying23 (by kernel_rfl) GNode.toD (fun n2 cs x hn h => openNode n2 cs x h) hf
  obtain ⟨A, c, e, hs⟩ := D.rd_sl.1 hl
  simp only [Value.cells, List.cons.injEq, List.length_map, and_true] at e
  exact ⟨l, A, c, e, hs⟩
end Go.Proofs.YtgbcdfeflgnogaaGreat

/- An argument of type Prog, as the statement reads it, is data in memory. Conditions: none. -/
namespace Go.Proofs.YtgbcdfeflgnogaaGreat
open Go.ChangeShapes Go.WideShapes Go.ChangeAt Go.RowKit Go.Deep
set_option linter.unusedVariables false
set_option linter.unusedSimpArgs false

set_option maxRecDepth 20000 in
theorem openProg {H : Type} {enc : TypeId × Value → H} {w : World} {sp : Nat → Bool} {held : Bool} (fuel : Nat) : ∀ (cs : List Value) (x : DataW H × List MemPlace), DataW.trod enc Tryz.prog w 0 sp held fuel 27 cs = some x → ∃ t : GProg, t.toD.rd w (Lt w.heap.size) cs := by
  induction fuel using Nat.strongRecOn with
  | _ fuel ih =>
  intro cs x h
  obtain ⟨xs, n, rfl, _, hl, hxl, hf⟩ := DataW.trod_struct Tryz.underlying27 h
  have hl2 : cs.length = 6 := hl.trans (by kernel_rfl)
  match cs, hl2 with
  | [v0, v1, v2, v3, v4, v5], _ =>
  obtain ⟨z0, e0⟩ := fld hf hxl 0 22 0 1 rfl (by kernel_rfl)
  replace e0 : DataW.trod enc Tryz.prog w 0 sp held n 22 [v0] = some z0 := e0
  obtain ⟨z1, e1⟩ := fld hf hxl 1 25 1 5 rfl (by kernel_rfl)
  replace e1 : DataW.trod enc Tryz.prog w 0 sp held n 25 [v1, v2, v3, v4, v5] = some z1 := e1
  obtain ⟨y0, a0⟩ := open_sl 3 (by decide) Tryz.underlying22 (by kernel_rfl) GData.toD (fun n2 cs x hn h => openData n2 cs x h) e0
  obtain ⟨y1, a1⟩ := openNode n _ _ e1
  refine ⟨⟨y0, y1⟩, ?_⟩
  unfold GProg.toD
  rw [D.rd_agg]
  exact D.rdF_cons.2 ⟨[v0], [v1, v2, v3, v4, v5], rfl, a0, D.rdF_cons.2 ⟨[v1, v2, v3, v4, v5], [], rfl, a1, D.rdF_nil.2 rfl⟩⟩

set_option maxRecDepth 20000 in
/-- the argument itself -/
theorem argProg {H : Type} {enc : TypeId × Value → H} {w : World} {r : Reach} {base : Nat} {sp : Nat → Bool} {held : Bool} {v : Value} {d : DataW H} {p : List MemPlace} (hv : Value.okWide Tryz.prog w r base 27 v) (h : DataW.Trod enc Tryz.prog w 0 sp held 27 v d p) :
    ∃ (t : GProg) (A1 : Option Addr) (c1 : Nat) (A2 : Option Addr) (c2 : Nat), v = .agg #[.slice A1 t.datas.length c1, .int .i64 t.main.op, .int .i64 t.main.n, .string t.main.s, .string t.main.t, .slice A2 t.main.kids.length c2] ∧ GProg.At w (Lt w.heap.size) A1 c1 A2 c2 t := by
  obtain ⟨cs, rfl, _⟩ := okWide_struct Tryz.underlying27 hv
  obtain ⟨fuel, hf⟩ := h
  obtain ⟨t, ht⟩ := openProg fuel _ _ hf
  obtain ⟨A1, c1, A2, c2, e, hat⟩ := GProg.rd ht
  have e2 : cs.toList = _ := e
  refine ⟨t, A1, c1, A2, c2, ?_, hat⟩
  congr 1
  apply Array.toList_inj.1
  rw [e2]

end Go.Proofs.YtgbcdfeflgnogaaGreat
