/- The data of the Go struct Node: how it lies in memory (no program in sight). Conditions: none. -/
import Derived.Test.YtgbcdfeflgnogaaMem
namespace Go.Proofs.Ytgbcdfeflgnogaa
open Go.RowKit
set_option linter.unusedVariables false
set_option linter.unusedSimpArgs false

inductive GNode where
  | mk (op : Int) (n : Int) (s : ByteArray) (t : ByteArray) (kids : List GNode)
def GNode.op : GNode → Int | .mk x _ _ _ _ => x
def GNode.n : GNode → Int | .mk _ x _ _ _ => x
def GNode.s : GNode → ByteArray | .mk _ _ x _ _ => x
def GNode.t : GNode → ByteArray | .mk _ _ _ x _ => x
def GNode.kids : GNode → List GNode | .mk _ _ _ _ x => x

mutual
def GNode.toD : GNode → D | .mk op n s t kids => .agg [.num .i64 op, .num .i64 n, .str s, .str t, .sl 5 (GNode.toDs kids)]
def GNode.toDs : List GNode → List D | [] => [] | t :: r => t.toD :: GNode.toDs r
end

theorem GNode.toDs_map : ∀ l : List GNode, GNode.toDs l = l.map GNode.toD
  | [] => rfl
  | t :: r => by simp only [GNode.toDs, List.map_cons, GNode.toDs_map r]

mutual
/-- how much it holds, as the laws count it -/
def GNode.bulk : GNode → Nat | .mk _ _ s t kids => s.size + t.size + GNode.bulks kids
def GNode.bulks : List GNode → Nat | [] => 0 | t :: r => 1 + t.bulk + GNode.bulks r
end
theorem GNode.bulks_eq : ∀ l : List GNode, GNode.bulks l = bulkL GNode.bulk l
  | [] => rfl
  | t :: r => by simp only [GNode.bulks, bulkL, GNode.bulks_eq r]

theorem GNode.bulk_eq (t : GNode) : t.bulk = t.s.size + t.t.size + bulkL GNode.bulk t.kids := by
  cases t; simp only [GNode.bulk, GNode.bulks_eq, GNode.op, GNode.n, GNode.s, GNode.t, GNode.kids]

/-- the facts of a struct that lies in memory: its cells are .int .i64 t.op, .int .i64 t.n, .string t.s, .string t.t, .slice A1 t.kids.length c1 -/
def GNode.At (w : World) (S : Nat → Prop) (A1 : Option Addr) (c1 : Nat) (t : GNode) : Prop :=
  (Lit.int .i64 t.op).wf = true ∧ (Lit.int .i64 t.n).wf = true ∧ t.s.size ≤ maxLen ∧ t.t.size ≤ maxLen ∧ Sl w S 5 A1 c1 (t.kids.map GNode.toD)

theorem GNode.rd {w : World} {S : Nat → Prop} {t : GNode} {cs : List Value} (h : t.toD.rd w S cs) : ∃ A1 c1, cs = [.int .i64 t.op, .int .i64 t.n, .string t.s, .string t.t, .slice A1 t.kids.length c1] ∧ GNode.At w S A1 c1 t := by
  cases t with
  | mk op n s t kids =>
  simp only [GNode.toD, GNode.toDs_map] at h
  rw [D.rd_agg] at h
  rw [D.rdF_cons] at h
  obtain ⟨x0, r0, rfl, k0, h⟩ := h
  obtain ⟨rfl, h0⟩ := D.rd_num.1 k0
  rw [D.rdF_cons] at h
  obtain ⟨x1, r1, rfl, k1, h⟩ := h
  obtain ⟨rfl, h1⟩ := D.rd_num.1 k1
  rw [D.rdF_cons] at h
  obtain ⟨x2, r2, rfl, k2, h⟩ := h
  obtain ⟨rfl, h2⟩ := D.rd_str.1 k2
  rw [D.rdF_cons] at h
  obtain ⟨x3, r3, rfl, k3, h⟩ := h
  obtain ⟨rfl, h3⟩ := D.rd_str.1 k3
  rw [D.rdF_cons] at h
  obtain ⟨x4, r4, rfl, k4, h⟩ := h
  obtain ⟨A1, c1, rfl, h4⟩ := D.rd_sl.1 k4
  obtain rfl := D.rdF_nil.1 h
  exact ⟨A1, c1, by simp [GNode.op, GNode.n, GNode.s, GNode.t, GNode.kids], h0, h1, h2, h3, h4⟩

theorem GNode.rd_mk {w : World} {S : Nat → Prop} {t : GNode} {A1 : Option Addr} {c1 : Nat} (h : GNode.At w S A1 c1 t) : t.toD.rd w S [.int .i64 t.op, .int .i64 t.n, .string t.s, .string t.t, .slice A1 t.kids.length c1] := by
  cases t with
  | mk op n s t kids =>
  simp only [GNode.toD, GNode.toDs_map]
  unfold GNode.At at h
  obtain ⟨h0, h1, h2, h3, h4⟩ := h
  rw [D.rd_agg]
  exact D.rdF_cons.2 ⟨[_], [_, _, _, _], rfl, D.rd_num.2 ⟨rfl, h0⟩, D.rdF_cons.2 ⟨[_], [_, _, _], rfl, D.rd_num.2 ⟨rfl, h1⟩, D.rdF_cons.2 ⟨[_], [_, _], rfl, D.rd_str.2 ⟨rfl, h2⟩, D.rdF_cons.2 ⟨[_], [_], rfl, D.rd_str.2 ⟨rfl, h3⟩, D.rdF_cons.2 ⟨[_], [], rfl, D.rd_sl.2 ⟨A1, c1, by simp [GNode.kids], h4⟩, D.rdF_nil.2 rfl⟩⟩⟩⟩⟩

theorem GNode.elem {w : World} {S : Nat → Prop} {A : Option Addr} {c : Nat} {l : List GNode} (h : Sl w S 5 A c (l.map GNode.toD)) (i : Nat) (hi : i < l.length) :
    ∃ b off A1 c1, A = some ⟨b, off, none⟩ ∧ S b ∧ w.cell? ⟨b, off + i * 5, none⟩ = some (.int .i64 l[i].op) ∧ w.cell? ⟨b, off + i * 5 + 1, none⟩ = some (.int .i64 l[i].n) ∧ w.cell? ⟨b, off + i * 5 + 2, none⟩ = some (.string l[i].s) ∧ w.cell? ⟨b, off + i * 5 + 3, none⟩ = some (.string l[i].t) ∧ w.cell? ⟨b, off + i * 5 + 4, none⟩ = some (.slice A1 l[i].kids.length c1) ∧ GNode.At w S A1 c1 l[i] := by
  obtain ⟨b, off, cs, e, hb, hl, hc, hr⟩ := Sl.get h i (by simpa using hi)
  rw [List.getElem_map] at hr
  obtain ⟨A1, c1, rfl, h1⟩ := GNode.rd hr
  exact ⟨b, off, A1, c1, e, hb, hc 0 _ rfl, hc 1 _ rfl, hc 2 _ rfl, hc 3 _ rfl, hc 4 _ rfl, h1⟩

theorem GNode.At.keep {w w' : World} {S S' : Nat → Prop} {t : GNode} {A1 : Option Addr} {c1 : Nat} (h : GNode.At w S A1 c1 t) (hk : ∀ b, S b → S' b ∧ w'.heap[b]? = w.heap[b]?) : GNode.At w' S' A1 c1 t := by
  unfold GNode.At at h ⊢
  obtain ⟨h0, h1, h2, h3, h4⟩ := h
  exact ⟨h0, h1, h2, h3, h4.keep hk⟩
theorem GNode.At.below {w w' : World} {B B' : Nat} {t : GNode} {A1 : Option Addr} {c1 : Nat} (h : GNode.At w (Lt B) A1 c1 t) (hb : Below B w w') (hB : B ≤ B') : GNode.At w' (Lt B') A1 c1 t :=
  h.keep (keep_below hb hB)

/-- the same, owned -/
def GNode.Ow (w : World) (S : Nat → Prop) (A1 : Option Addr) (c1 : Nat) (t : GNode) : Prop :=
  (Lit.int .i64 t.op).wf = true ∧ (Lit.int .i64 t.n).wf = true ∧ t.s.size ≤ maxLen ∧ t.t.size ≤ maxLen ∧ Osl w S 5 A1 c1 (t.kids.map GNode.toD)

theorem GNode.own_mk {w : World} {S : Nat → Prop} {t : GNode} {A1 : Option Addr} {c1 : Nat} (h : GNode.Ow w S A1 c1 t) : t.toD.own w S [.int .i64 t.op, .int .i64 t.n, .string t.s, .string t.t, .slice A1 t.kids.length c1] := by
  cases t with
  | mk op n s t kids =>
  simp only [GNode.toD, GNode.toDs_map]
  unfold GNode.Ow at h
  obtain ⟨h0, h1, h2, h3, h4⟩ := h
  rw [D.own_agg]
  exact D.ownF_plain (c1 := [_]) (c2 := [_, _, _, _]) (D.own_num.2 ⟨rfl, h0⟩) (D.ownF_plain (c1 := [_]) (c2 := [_, _, _]) (D.own_num.2 ⟨rfl, h1⟩) (D.ownF_plain (c1 := [_]) (c2 := [_, _]) (D.own_str.2 ⟨rfl, h2⟩) (D.ownF_plain (c1 := [_]) (c2 := [_]) (D.own_str.2 ⟨rfl, h3⟩) (D.ownF_last (D.own_sl.2 ⟨A1, c1, by simp [GNode.kids], h4⟩)))))

theorem GNode.Ow.keep {w w' : World} {S S' : Nat → Prop} {t : GNode} {A1 : Option Addr} {c1 : Nat} (h : GNode.Ow w S A1 c1 t) (hk : ∀ b, S b → S' b ∧ w'.heap[b]? = w.heap[b]?) : GNode.Ow w' S' A1 c1 t := by
  unfold GNode.Ow at h ⊢
  obtain ⟨h0, h1, h2, h3, h4⟩ := h
  exact ⟨h0, h1, h2, h3, h4.keep hk⟩
theorem GNode.Ow.at {w : World} {S : Nat → Prop} {t : GNode} {A1 : Option Addr} {c1 : Nat} (h : GNode.Ow w S A1 c1 t) : GNode.At w S A1 c1 t := by
  unfold GNode.Ow at h
  unfold GNode.At
  obtain ⟨h0, h1, h2, h3, h4⟩ := h
  exact ⟨h0, h1, h2, h3, h4.sl⟩

end Go.Proofs.Ytgbcdfeflgnogaa
