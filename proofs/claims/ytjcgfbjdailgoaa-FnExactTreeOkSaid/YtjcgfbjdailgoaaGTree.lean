/- The data of the Go struct Tree: how it lies in memory (no program in sight). Conditions: none. -/
import Derived.Test.YtjcgfbjdailgoaaMem
namespace Go.Proofs.Ytjcgfbjdailgoaa
open Go.RowKit
set_option linter.unusedVariables false
set_option linter.unusedSimpArgs false

inductive GTree where
  | mk (op : Int) (n : Int) (path : List Int) (s : ByteArray) (kids : List GTree)
def GTree.op : GTree → Int | .mk x _ _ _ _ => x
def GTree.n : GTree → Int | .mk _ x _ _ _ => x
def GTree.path : GTree → List Int | .mk _ _ x _ _ => x
def GTree.s : GTree → ByteArray | .mk _ _ _ x _ => x
def GTree.kids : GTree → List GTree | .mk _ _ _ _ x => x

mutual
def GTree.toD : GTree → D | .mk op n path s kids => .agg [.num .i64 op, .num .i64 n, .sl 1 (path.map (D.num .i64)), .str s, .sl 5 (GTree.toDs kids)]
def GTree.toDs : List GTree → List D | [] => [] | t :: r => t.toD :: GTree.toDs r
end

theorem GTree.toDs_map : ∀ l : List GTree, GTree.toDs l = l.map GTree.toD
  | [] => rfl
  | t :: r => by simp only [GTree.toDs, List.map_cons, GTree.toDs_map r]

mutual
/-- how much it holds, as the laws count it -/
def GTree.bulk : GTree → Nat | .mk _ _ path s kids => path.length + s.size + GTree.bulks kids
def GTree.bulks : List GTree → Nat | [] => 0 | t :: r => 1 + t.bulk + GTree.bulks r
end
theorem GTree.bulks_eq : ∀ l : List GTree, GTree.bulks l = bulkL GTree.bulk l
  | [] => rfl
  | t :: r => by simp only [GTree.bulks, bulkL, GTree.bulks_eq r]

theorem GTree.bulk_eq (t : GTree) : t.bulk = t.path.length + t.s.size + bulkL GTree.bulk t.kids := by
  cases t; simp only [GTree.bulk, GTree.bulks_eq, GTree.op, GTree.n, GTree.path, GTree.s, GTree.kids]

/-- the facts of a struct that lies in memory: its cells are .int .i64 t.op, .int .i64 t.n, .slice A1 t.path.length c1, .string t.s, .slice A2 t.kids.length c2 -/
def GTree.At (w : World) (S : Nat → Prop) (A1 : Option Addr) (c1 : Nat) (A2 : Option Addr) (c2 : Nat) (t : GTree) : Prop :=
  (Lit.int .i64 t.op).wf = true ∧ (Lit.int .i64 t.n).wf = true ∧ Sl w S 1 A1 c1 (t.path.map (D.num .i64)) ∧ t.s.size ≤ maxLen ∧ Sl w S 5 A2 c2 (t.kids.map GTree.toD)

theorem GTree.rd {w : World} {S : Nat → Prop} {t : GTree} {cs : List Value} (h : t.toD.rd w S cs) : ∃ A1 c1 A2 c2, cs = [.int .i64 t.op, .int .i64 t.n, .slice A1 t.path.length c1, .string t.s, .slice A2 t.kids.length c2] ∧ GTree.At w S A1 c1 A2 c2 t := by
  cases t with
  | mk op n path s kids =>
  simp only [GTree.toD, GTree.toDs_map] at h
  rw [D.rd_agg] at h
  rw [D.rdF_cons] at h
  obtain ⟨x0, r0, rfl, k0, h⟩ := h
  obtain ⟨rfl, h0⟩ := D.rd_num.1 k0
  rw [D.rdF_cons] at h
  obtain ⟨x1, r1, rfl, k1, h⟩ := h
  obtain ⟨rfl, h1⟩ := D.rd_num.1 k1
  rw [D.rdF_cons] at h
  obtain ⟨x2, r2, rfl, k2, h⟩ := h
  obtain ⟨A1, c1, rfl, h2⟩ := D.rd_sl.1 k2
  rw [D.rdF_cons] at h
  obtain ⟨x3, r3, rfl, k3, h⟩ := h
  obtain ⟨rfl, h3⟩ := D.rd_str.1 k3
  rw [D.rdF_cons] at h
  obtain ⟨x4, r4, rfl, k4, h⟩ := h
  obtain ⟨A2, c2, rfl, h4⟩ := D.rd_sl.1 k4
  obtain rfl := D.rdF_nil.1 h
  exact ⟨A1, c1, A2, c2, by simp [GTree.op, GTree.n, GTree.path, GTree.s, GTree.kids], h0, h1, h2, h3, h4⟩

theorem GTree.rd_mk {w : World} {S : Nat → Prop} {t : GTree} {A1 : Option Addr} {c1 : Nat} {A2 : Option Addr} {c2 : Nat} (h : GTree.At w S A1 c1 A2 c2 t) : t.toD.rd w S [.int .i64 t.op, .int .i64 t.n, .slice A1 t.path.length c1, .string t.s, .slice A2 t.kids.length c2] := by
  cases t with
  | mk op n path s kids =>
  simp only [GTree.toD, GTree.toDs_map]
  unfold GTree.At at h
  obtain ⟨h0, h1, h2, h3, h4⟩ := h
  rw [D.rd_agg]
  exact D.rdF_cons.2 ⟨[_], [_, _, _, _], rfl, D.rd_num.2 ⟨rfl, h0⟩, D.rdF_cons.2 ⟨[_], [_, _, _], rfl, D.rd_num.2 ⟨rfl, h1⟩, D.rdF_cons.2 ⟨[_], [_, _], rfl, D.rd_sl.2 ⟨A1, c1, by simp [GTree.path], h2⟩, D.rdF_cons.2 ⟨[_], [_], rfl, D.rd_str.2 ⟨rfl, h3⟩, D.rdF_cons.2 ⟨[_], [], rfl, D.rd_sl.2 ⟨A2, c2, by simp [GTree.kids], h4⟩, D.rdF_nil.2 rfl⟩⟩⟩⟩⟩

theorem GTree.elem {w : World} {S : Nat → Prop} {A : Option Addr} {c : Nat} {l : List GTree} (h : Sl w S 5 A c (l.map GTree.toD)) (i : Nat) (hi : i < l.length) :
    ∃ b off A1 c1 A2 c2, A = some ⟨b, off, none⟩ ∧ S b ∧ w.cell? ⟨b, off + i * 5, none⟩ = some (.int .i64 l[i].op) ∧ w.cell? ⟨b, off + i * 5 + 1, none⟩ = some (.int .i64 l[i].n) ∧ w.cell? ⟨b, off + i * 5 + 2, none⟩ = some (.slice A1 l[i].path.length c1) ∧ w.cell? ⟨b, off + i * 5 + 3, none⟩ = some (.string l[i].s) ∧ w.cell? ⟨b, off + i * 5 + 4, none⟩ = some (.slice A2 l[i].kids.length c2) ∧ GTree.At w S A1 c1 A2 c2 l[i] := by
  obtain ⟨b, off, cs, e, hb, hl, hc, hr⟩ := Sl.get h i (by simpa using hi)
  rw [List.getElem_map] at hr
  obtain ⟨A1, c1, A2, c2, rfl, h1⟩ := GTree.rd hr
  exact ⟨b, off, A1, c1, A2, c2, e, hb, hc 0 _ rfl, hc 1 _ rfl, hc 2 _ rfl, hc 3 _ rfl, hc 4 _ rfl, h1⟩

theorem GTree.At.keep {w w' : World} {S S' : Nat → Prop} {t : GTree} {A1 : Option Addr} {c1 : Nat} {A2 : Option Addr} {c2 : Nat} (h : GTree.At w S A1 c1 A2 c2 t) (hk : ∀ b, S b → S' b ∧ w'.heap[b]? = w.heap[b]?) : GTree.At w' S' A1 c1 A2 c2 t := by
  unfold GTree.At at h ⊢
  obtain ⟨h0, h1, h2, h3, h4⟩ := h
  exact ⟨h0, h1, h2.keep hk, h3, h4.keep hk⟩
theorem GTree.At.below {w w' : World} {B B' : Nat} {t : GTree} {A1 : Option Addr} {c1 : Nat} {A2 : Option Addr} {c2 : Nat} (h : GTree.At w (Lt B) A1 c1 A2 c2 t) (hb : Below B w w') (hB : B ≤ B') : GTree.At w' (Lt B') A1 c1 A2 c2 t :=
  h.keep (keep_below hb hB)

/-- the same, owned -/
def GTree.Ow (w : World) (S : Nat → Prop) (A1 : Option Addr) (c1 : Nat) (A2 : Option Addr) (c2 : Nat) (t : GTree) : Prop :=
  ∃ S1 S2 : Nat → Prop, (∀ x, S1 x → S x) ∧ (∀ x, S2 x → S x) ∧ (∀ x, S1 x → ¬ S2 x) ∧ (Lit.int .i64 t.op).wf = true ∧ (Lit.int .i64 t.n).wf = true ∧ Osl w S1 1 A1 c1 (t.path.map (D.num .i64)) ∧ t.s.size ≤ maxLen ∧ Osl w S2 5 A2 c2 (t.kids.map GTree.toD)

theorem GTree.own_mk {w : World} {S : Nat → Prop} {t : GTree} {A1 : Option Addr} {c1 : Nat} {A2 : Option Addr} {c2 : Nat} (h : GTree.Ow w S A1 c1 A2 c2 t) : t.toD.own w S [.int .i64 t.op, .int .i64 t.n, .slice A1 t.path.length c1, .string t.s, .slice A2 t.kids.length c2] := by
  cases t with
  | mk op n path s kids =>
  simp only [GTree.toD, GTree.toDs_map]
  unfold GTree.Ow at h
  obtain ⟨S1, S2, g1, g2, d12, h0, h1, h2, h3, h4⟩ := h
  rw [D.own_agg]
  exact D.ownF_plain (c1 := [_]) (c2 := [_, _, _, _]) (D.own_num.2 ⟨rfl, h0⟩) (D.ownF_plain (c1 := [_]) (c2 := [_, _, _]) (D.own_num.2 ⟨rfl, h1⟩) (D.ownF_cons (S := S) (S1 := S1) (S2 := S2) (c1 := [_]) (c2 := [_, _]) (fun x hx => ⟨g1 x hx, fun h => d12 x hx h⟩) (g2) (D.own_sl.2 ⟨A1, c1, by simp [GTree.path], h2⟩) (D.ownF_plain (c1 := [_]) (c2 := [_]) (D.own_str.2 ⟨rfl, h3⟩) (D.ownF_last (D.own_sl.2 ⟨A2, c2, by simp [GTree.kids], h4⟩)))))

theorem GTree.Ow.keep {w w' : World} {S S' : Nat → Prop} {t : GTree} {A1 : Option Addr} {c1 : Nat} {A2 : Option Addr} {c2 : Nat} (h : GTree.Ow w S A1 c1 A2 c2 t) (hk : ∀ b, S b → S' b ∧ w'.heap[b]? = w.heap[b]?) : GTree.Ow w' S' A1 c1 A2 c2 t := by
  unfold GTree.Ow at h ⊢
  obtain ⟨S1, S2, g1, g2, d12, h0, h1, h2, h3, h4⟩ := h
  exact ⟨S1, S2, fun x hx => (hk x (g1 x hx)).1, fun x hx => (hk x (g2 x hx)).1, d12, h0, h1, h2.keep fun b hb => ⟨hb, (hk b (g1 b hb)).2⟩, h3, h4.keep fun b hb => ⟨hb, (hk b (g2 b hb)).2⟩⟩
theorem GTree.Ow.at {w : World} {S : Nat → Prop} {t : GTree} {A1 : Option Addr} {c1 : Nat} {A2 : Option Addr} {c2 : Nat} (h : GTree.Ow w S A1 c1 A2 c2 t) : GTree.At w S A1 c1 A2 c2 t := by
  unfold GTree.Ow at h
  unfold GTree.At
  obtain ⟨S1, S2, g1, g2, d12, h0, h1, h2, h3, h4⟩ := h
  exact ⟨h0, h1, h2.sl.keep fun b hb => ⟨g1 b hb, rfl⟩, h3, h4.sl.keep fun b hb => ⟨g2 b hb, rfl⟩⟩

end Go.Proofs.Ytjcgfbjdailgoaa
