/- Depths: how deep the values stand, in the program and in the reference. Conditions: none but what a Go value may be. -/
import Derived.Test.YtgbcdfeflgnogaaDepthsP
import Derived.Test.YtgbcdfeflgnogaaRowI
import Derived.Deep.LoopGhost
import Derived.Deep.RegionHeld3
namespace Go.Proofs.Ytgbcdfeflgnogaa
open Go.RowKit
set_option linter.unusedVariables false
set_option linter.unusedSimpArgs false
set_option maxHeartbeats 2000000

theorem ret_ib {a b : Int} {c d : Bool} (h : a = b) (h2 : c = d) : Ending.returned (.tuple #[.int .i64 a, .bool c]) = .returned (.tuple #[.int .i64 b, .bool d]) := by rw [h, h2]
def aftR (x : Option Int) : Int := match x with | some d => d | none => 0

/-- a list of numbers that a call lays -/
def FollowsTo (l : List Int) (w : World) (e : Ending) (w' : World) : Prop := ∃ A c, e = .returned (.slice A l.length c) ∧ Sl w' (Btw w.heap.size w'.heap.size) 1 A c (l.map (D.num .i64)) ∧ Below w.heap.size w w'
/-- what Depths hands back -/
def DepthsTo (l : List GFun) (i : Int) (w : World) (e : Ending) (w' : World) : Prop :=
  ∃ r A c, IsDepths l i r ∧ e = .returned (.tuple #[.slice A (r.getD []).length c, .bool r.isSome]) ∧ Osl w' (Btw w.heap.size w'.heap.size) 1 A c ((r.getD []).map (D.num .i64)) ∧ Below w.heap.size w w'
theorem DepthsTo.no {l : List GFun} {i : Int} {w w' : World} {A : Option Addr} {c : Nat} (h : IsDepths l i none) (hc : c ≤ maxLen) (hb : Below w.heap.size w w') : DepthsTo l i w (.returned (.tuple #[.slice A 0 c, .bool false])) w' :=
  ⟨none, A, c, h, rfl, Osl.nil hc, hb⟩
theorem DepthsTo.yes {l : List GFun} {i : Int} {w w' : World} {g n : Nat} {t : TypeId} {out : List Int} (h : IsDepths l i (some out)) (hr : Row w' g t (rowI out)) (hg : w.heap.size ≤ g) (hl : out.length = n) (hn : n ≤ 3000) (hw : ∀ x ∈ out, (Lit.int .i64 x).wf = true) (hb : Below w.heap.size w w') : DepthsTo l i w (.returned (.tuple #[.slice (some ⟨g, 0, none⟩) n n, .bool true])) w' := by
  subst hl
  exact ⟨some out, _, _, h, rfl, rowI_osl hr hg (by unfold maxLen; omega) hw, hb⟩
theorem SInv.wf {ops : List GOp} {out : List Int} {todo : List Nat} {ex : Nat → Prop} (h : SInv ops out todo ex) : ∀ x ∈ out, (Lit.int .i64 x).wf = true := fun x hx => by
  obtain ⟨k, hk, rfl⟩ := List.getElem_of_mem hx
  rcases h.val k hk with e | ⟨a, b, _⟩
  · rw [e]; exact wf_i64 (by omega) (by omega)
  · exact wf_i64 (by omega) (by omega)
/-- places as numbers -/
def tdI (todo : List Nat) : List Int := todo.map fun k => ((k : Nat) : Int)
theorem tdI_length (todo : List Nat) : (tdI todo).length = todo.length := by unfold tdI; simp
theorem replicate_all {n : Nat} {v : Int} {out : List Int} (h : out.length = n) (h2 : ∀ k (h : k < out.length), k < n → out[k] = v) : out = List.replicate n v := by
  apply List.ext_getElem (by simp [h])
  intro k h3 h4
  rw [List.getElem_replicate]; exact h2 k h3 (by omega)
theorem rdC_num {w w' : World} {S S' : Nat → Prop} : ∀ (l : List Int) (cs : List Value), rdC w 1 S (l.map (D.num .i64)) cs → rdC w' 1 S' (l.map (D.num .i64)) cs
  | [], _, h => h
  | x :: r, cs, h => by
    simp only [List.map_cons, rdC] at h ⊢
    obtain ⟨c1, c2, e, hl, h1, h2⟩ := h
    exact ⟨c1, c2, e, hl, D.rd_num.2 (D.rd_num.1 h1), rdC_num r c2 h2⟩
theorem Gsh.setFar {w : World} {B : Nat} {e : TypeId} {v : Value} {n : Nat} {l : List Int} (h : Gsh w B e 1 v n (l.map (D.num .i64))) {p : Addr} (hp : p.block < B) (u : Value) : Gsh (w.setCell p u) B e 1 v n (l.map (D.num .i64)) := by
  obtain ⟨h1, cs, h2, h4⟩ := h
  refine ⟨h1, cs, ⟨h2.1, ?_⟩, rdC_num l cs h4⟩
  rcases h2.2 with h | ⟨g, cap, cur, hv, a1, a2, a3⟩
  · exact .inl h
  · exact .inr ⟨g, cap, cur, hv, a1, (Below.heap_setCell w p u g (by omega)).trans a2, a3⟩
theorem Gsh.top {w : World} {B : Nat} {e : TypeId} {A : Option Addr} {c n : Nat} {ts : List Nat} {q : Nat} (h : Gsh w B e 1 (.slice A (n + 1) c) (n + 1) ((tdI (ts ++ [q])).map (D.num .i64))) (hB : B ≤ w.heap.size) (hn : ts.length = n) :
    ∃ b off, A = some ⟨b, off, none⟩ ∧ w.cell? ⟨b, off + n, none⟩ = some (.int .i64 (q : Int)) ∧ n + 1 ≤ c ∧ c ≤ maxLen := by
  obtain ⟨A', c', e', hs⟩ := h.sl hB
  obtain ⟨rfl, rfl⟩ : A = A' ∧ c = c' := by simpa using e'
  have hl : (tdI (ts ++ [q])).length = n + 1 := by rw [tdI_length]; simp [hn]
  obtain ⟨b, off, e1, hS, hc, hw⟩ := int_elem hs n (by omega)
  have h1 := hs.1
  rw [List.length_map, hl] at h1
  refine ⟨b, off, e1, ?_, h1, hs.2.1⟩
  rw [hc]
  congr 2
  subst hn
  simp [tdI]
theorem tdI_snoc (ts : List Nat) (q : Nat) : (tdI (ts ++ [q])).map (D.num .i64) = (tdI ts).map (D.num .i64) ++ [D.num .i64 (q : Int)] := by simp [tdI]
theorem SInv.rng {ops : List GOp} {out : List Int} {todo : List Nat} {ex : Nat → Prop} (h : SInv ops out todo ex) {q : Nat} (hq : q < out.length) (hne : ¬ out[q] = -1) : 1 ≤ out[q] ∧ out[q] ≤ 60 := by
  rcases h.val q hq with e | ⟨a, b, _⟩
  · exact absurd e hne
  · exact ⟨a, b⟩
theorem PInv.mono {ops : List GOp} {out : List Int} {todo : List Nat} {q : Nat} {d' : Int} {don don' : Int → Prop} (h : PInv ops out todo q d' don) (hd : ∀ x, don' x → don x) : PInv ops out todo q d' don' :=
  ⟨h.base, h.hq, h.hq', h.at', h.mark, h.rng, fun x hx hd' => h.nxt x hx (hd x hd')⟩
theorem mem_take_succ {ns : List Int} {j : Nat} (h : j < ns.length) {x : Int} (hx : x ∈ ns.take (j + 1)) : x ∈ ns.take j ∨ x = ns[j] := by
  rw [take_snoc' ns j h, List.mem_append] at hx
  exact hx.imp id fun h => by simpa using h
theorem SInv.begin {ops : List GOp} {out : List Int} (h1 : 1 ≤ ops.length) (hl : out.length = ops.length) (h2 : ∀ k (h : k < out.length), k < ops.length → out[k] = -1) : SInv ops (out.set 0 1) [0] (fun _ => False) :=
  SInv.start h1 (by simp [hl]) (by rw [List.getElem?_set_self (by omega)]) (fun k h hk => by rw [List.getElem_set_ne (by omega)]; exact h2 k (by simpa using h) (by simp at h; omega))
theorem negs_le : ∀ (l : List Int), negs l ≤ l.length
  | [] => by simp [negs]
  | x :: r => by have := negs_le r; simp only [negs, List.length_cons]; split <;> omega

end Go.Proofs.Ytgbcdfeflgnogaa
