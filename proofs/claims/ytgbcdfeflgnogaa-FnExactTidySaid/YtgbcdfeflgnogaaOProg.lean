/- An argument of type Prog, as the statement reads it, is data in memory. Conditions: none. -/
import Derived.Test.YtgbcdfeflgnogaaRows
import Derived.Test.YtgbcdfeflgnogaaOpen
import Derived.Test.YtgbcdfeflgnogaaGProg
import Derived.Test.YtgbcdfeflgnogaaOData
import Derived.Test.YtgbcdfeflgnogaaONode
namespace Go.Proofs.Ytgbcdfeflgnogaa
open Go.ChangeShapes Go.WideShapes Go.ChangeAt Go.RowKit Go.Deep
set_option linter.unusedVariables false
set_option linter.unusedSimpArgs false

set_option maxRecDepth 20000 in
theorem openProg {H : Type} {enc : TypeId × Value → H} {w : World} {sp : Nat → Bool} {held : Bool} (fuel : Nat) : ∀ (cs : List Value) (x : DataW H × List MemPlace), DataW.trod enc Try.prog w 0 sp held fuel 45 cs = some x → ∃ t : GProg, t.toD.rd w (Lt w.heap.size) cs := by
  induction fuel using Nat.strongRecOn with
  | _ fuel ih =>
  intro cs x h
  obtain ⟨xs, n, rfl, _, hl, hxl, hf⟩ := DataW.trod_struct Try.underlying45 h
  have hl2 : cs.length = 6 := hl.trans (by kernel_rfl)
  match cs, hl2 with
  | [v0, v1, v2, v3, v4, v5], _ =>
  obtain ⟨z0, e0⟩ := fld hf hxl 0 22 0 1 rfl (by kernel_rfl)
  replace e0 : DataW.trod enc Try.prog w 0 sp held n 22 [v0] = some z0 := e0
  obtain ⟨z1, e1⟩ := fld hf hxl 1 43 1 5 rfl (by kernel_rfl)
  replace e1 : DataW.trod enc Try.prog w 0 sp held n 43 [v1, v2, v3, v4, v5] = some z1 := e1
  obtain ⟨y0, a0⟩ := open_sl 3 (by decide) Try.underlying22 (by kernel_rfl) GData.toD (fun n2 cs x hn h => openData n2 cs x h) e0
  obtain ⟨y1, a1⟩ := openNode n _ _ e1
  refine ⟨⟨y0, y1⟩, ?_⟩
  unfold GProg.toD
  rw [D.rd_agg]
  exact D.rdF_cons.2 ⟨[v0], [v1, v2, v3, v4, v5], rfl, a0, D.rdF_cons.2 ⟨[v1, v2, v3, v4, v5], [], rfl, a1, D.rdF_nil.2 rfl⟩⟩

set_option maxRecDepth 20000 in
/-- the argument itself -/
theorem argProg {H : Type} {enc : TypeId × Value → H} {w : World} {r : Reach} {base : Nat} {sp : Nat → Bool} {held : Bool} {v : Value} {d : DataW H} {p : List MemPlace} (hv : Value.okWide Try.prog w r base 45 v) (h : DataW.Trod enc Try.prog w 0 sp held 45 v d p) :
    ∃ (t : GProg) (A1 : Option Addr) (c1 : Nat) (A2 : Option Addr) (c2 : Nat), v = .agg #[.slice A1 t.datas.length c1, .int .i64 t.main.op, .int .i64 t.main.n, .string t.main.s, .string t.main.t, .slice A2 t.main.kids.length c2] ∧ GProg.At w (Lt w.heap.size) A1 c1 A2 c2 t := by
  obtain ⟨cs, rfl, _⟩ := okWide_struct Try.underlying45 hv
  obtain ⟨fuel, hf⟩ := h
  obtain ⟨t, ht⟩ := openProg fuel _ _ hf
  obtain ⟨A1, c1, A2, c2, e, hat⟩ := GProg.rd ht
  have e2 : cs.toList = _ := e
  refine ⟨t, A1, c1, A2, c2, ?_, hat⟩
  congr 1
  apply Array.toList_inj.1
  rw [e2]

end Go.Proofs.Ytgbcdfeflgnogaa
