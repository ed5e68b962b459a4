/- The data of the Go struct Value: how it lies in memory (no program in sight). Conditions: none. -/
import Derived.Test.YtnjindgpmacjmaaMem
namespace Go.Proofs.Ytnjindgpmacjmaa
open Go.RowKit
set_option linter.unusedVariables false
set_option linter.unusedSimpArgs false

inductive GValue where
  | mk (kind : Int) (n : Int) (s : ByteArray) (kids : List GValue)
def GValue.kind : GValue → Int | .mk x _ _ _ => x
def GValue.n : GValue → Int | .mk _ x _ _ => x
def GValue.s : GValue → ByteArray | .mk _ _ x _ => x
def GValue.kids : GValue → List GValue | .mk _ _ _ x => x

mutual
def GValue.toD : GValue → D | .mk kind n s kids => .agg [.num .i64 kind, .num .i64 n, .str s, .sl 4 (GValue.toDs kids)]
def GValue.toDs : List GValue → List D | [] => [] | t :: r => t.toD :: GValue.toDs r
end

theorem GValue.toDs_map : ∀ l : List GValue, GValue.toDs l = l.map GValue.toD
  | [] => rfl
  | t :: r => by simp only [GValue.toDs, List.map_cons, GValue.toDs_map r]

mutual
/-- how much it holds, as the laws count it -/
def GValue.bulk : GValue → Nat | .mk _ _ s kids => s.size + GValue.bulks kids
def GValue.bulks : List GValue → Nat | [] => 0 | t :: r => 1 + t.bulk + GValue.bulks r
end
theorem GValue.bulks_eq : ∀ l : List GValue, GValue.bulks l = bulkL GValue.bulk l
  | [] => rfl
  | t :: r => by simp only [GValue.bulks, bulkL, GValue.bulks_eq r]

theorem GValue.bulk_eq (t : GValue) : t.bulk = t.s.size + bulkL GValue.bulk t.kids := by
  cases t; simp only [GValue.bulk, GValue.bulks_eq, GValue.kind, GValue.n, GValue.s, GValue.kids]

/-- the facts of a struct that lies in memory: its cells are .int .i64 t.kind, .int .i64 t.n, .string t.s, .slice A1 t.kids.length c1 -/
def GValue.At (w : World) (S : Nat → Prop) (A1 : Option Addr) (c1 : Nat) (t : GValue) : Prop :=
  (Lit.int .i64 t.kind).wf = true ∧ (Lit.int .i64 t.n).wf = true ∧ t.s.size ≤ maxLen ∧ Sl w S 4 A1 c1 (t.kids.map GValue.toD)

theorem GValue.rd {w : World} {S : Nat → Prop} {t : GValue} {cs : List Value} (h : t.toD.rd w S cs) : ∃ A1 c1, cs = [.int .i64 t.kind, .int .i64 t.n, .string t.s, .slice A1 t.kids.length c1] ∧ GValue.At w S A1 c1 t := by
  cases t with
  | mk kind n s kids =>
  simp only [GValue.toD, GValue.toDs_map] at h
  rw [D.rd_agg] at h
  rw [D.rdF_cons] at h
  obtain ⟨x0, r0, rfl, k0, h⟩ := h
  obtain ⟨rfl, h0⟩ := D.rd_num.1 k0
  rw [D.rdF_cons] at h
  obtain ⟨x1, r1, rfl, k1, h⟩ := h
  obtain ⟨rfl, h1⟩ := D.rd_num.1 k1
  rw [D.rdF_cons] at h
  obtain ⟨x2, r2, rfl, k2, h⟩ := h
  obtain ⟨rfl, h2⟩ := D.rd_str.1 k2
  rw [D.rdF_cons] at h
  obtain ⟨x3, r3, rfl, k3, h⟩ := h
  obtain ⟨A1, c1, rfl, h3⟩ := D.rd_sl.1 k3
  obtain rfl := D.rdF_nil.1 h
  exact ⟨A1, c1, by simp [GValue.kind, GValue.n, GValue.s, GValue.kids], h0, h1, h2, h3⟩

theorem GValue.rd_mk {w : World} {S : Nat → Prop} {t : GValue} {A1 : Option Addr} {c1 : Nat} (h : GValue.At w S A1 c1 t) : t.toD.rd w S [.int .i64 t.kind, .int .i64 t.n, .string t.s, .slice A1 t.kids.length c1] := by
  cases t with
  | mk kind n s kids =>
  simp only [GValue.toD, GValue.toDs_map]
  unfold GValue.At at h
  obtain ⟨h0, h1, h2, h3⟩ := h
  rw [D.rd_agg]
  exact D.rdF_cons.2 ⟨[_], [_, _, _], rfl, D.rd_num.2 ⟨rfl, h0⟩, D.rdF_cons.2 ⟨[_], [_, _], rfl, D.rd_num.2 ⟨rfl, h1⟩, D.rdF_cons.2 ⟨[_], [_], rfl, D.rd_str.2 ⟨rfl, h2⟩, D.rdF_cons.2 ⟨[_], [], rfl, D.rd_sl.2 ⟨A1, c1, by simp [GValue.kids], h3⟩, D.rdF_nil.2 rfl⟩⟩⟩⟩

theorem GValue.elem {w : World} {S : Nat → Prop} {A : Option Addr} {c : Nat} {l : List GValue} (h : Sl w S 4 A c (l.map GValue.toD)) (i : Nat) (hi : i < l.length) :
    ∃ b off A1 c1, A = some ⟨b, off, none⟩ ∧ S b ∧ w.cell? ⟨b, off + i * 4, none⟩ = some (.int .i64 l[i].kind) ∧ w.cell? ⟨b, off + i * 4 + 1, none⟩ = some (.int .i64 l[i].n) ∧ w.cell? ⟨b, off + i * 4 + 2, none⟩ = some (.string l[i].s) ∧ w.cell? ⟨b, off + i * 4 + 3, none⟩ = some (.slice A1 l[i].kids.length c1) ∧ GValue.At w S A1 c1 l[i] := by
  obtain ⟨b, off, cs, e, hb, hl, hc, hr⟩ := Sl.get h i (by simpa using hi)
  rw [List.getElem_map] at hr
  obtain ⟨A1, c1, rfl, h1⟩ := GValue.rd hr
  exact ⟨b, off, A1, c1, e, hb, hc 0 _ rfl, hc 1 _ rfl, hc 2 _ rfl, hc 3 _ rfl, h1⟩

theorem GValue.At.keep {w w' : World} {S S' : Nat → Prop} {t : GValue} {A1 : Option Addr} {c1 : Nat} (h : GValue.At w S A1 c1 t) (hk : ∀ b, S b → S' b ∧ w'.heap[b]? = w.heap[b]?) : GValue.At w' S' A1 c1 t := by
  unfold GValue.At at h ⊢
  obtain ⟨h0, h1, h2, h3⟩ := h
  exact ⟨h0, h1, h2, h3.keep hk⟩
theorem GValue.At.below {w w' : World} {B B' : Nat} {t : GValue} {A1 : Option Addr} {c1 : Nat} (h : GValue.At w (Lt B) A1 c1 t) (hb : Below B w w') (hB : B ≤ B') : GValue.At w' (Lt B') A1 c1 t :=
  h.keep (keep_below hb hB)

/-- the same, owned -/
def GValue.Ow (w : World) (S : Nat → Prop) (A1 : Option Addr) (c1 : Nat) (t : GValue) : Prop :=
  (Lit.int .i64 t.kind).wf = true ∧ (Lit.int .i64 t.n).wf = true ∧ t.s.size ≤ maxLen ∧ Osl w S 4 A1 c1 (t.kids.map GValue.toD)

theorem GValue.own_mk {w : World} {S : Nat → Prop} {t : GValue} {A1 : Option Addr} {c1 : Nat} (h : GValue.Ow w S A1 c1 t) : t.toD.own w S [.int .i64 t.kind, .int .i64 t.n, .string t.s, .slice A1 t.kids.length c1] := by
  cases t with
  | mk kind n s kids =>
  simp only [GValue.toD, GValue.toDs_map]
  unfold GValue.Ow at h
  obtain ⟨h0, h1, h2, h3⟩ := h
  rw [D.own_agg]
  exact D.ownF_plain (c1 := [_]) (c2 := [_, _, _]) (D.own_num.2 ⟨rfl, h0⟩) (D.ownF_plain (c1 := [_]) (c2 := [_, _]) (D.own_num.2 ⟨rfl, h1⟩) (D.ownF_plain (c1 := [_]) (c2 := [_]) (D.own_str.2 ⟨rfl, h2⟩) (D.ownF_last (D.own_sl.2 ⟨A1, c1, by simp [GValue.kids], h3⟩))))

theorem GValue.Ow.keep {w w' : World} {S S' : Nat → Prop} {t : GValue} {A1 : Option Addr} {c1 : Nat} (h : GValue.Ow w S A1 c1 t) (hk : ∀ b, S b → S' b ∧ w'.heap[b]? = w.heap[b]?) : GValue.Ow w' S' A1 c1 t := by
  unfold GValue.Ow at h ⊢
  obtain ⟨h0, h1, h2, h3⟩ := h
  exact ⟨h0, h1, h2, h3.keep hk⟩
theorem GValue.Ow.at {w : World} {S : Nat → Prop} {t : GValue} {A1 : Option Addr} {c1 : Nat} (h : GValue.Ow w S A1 c1 t) : GValue.At w S A1 c1 t := by
  unfold GValue.Ow at h
  unfold GValue.At
  obtain ⟨h0, h1, h2, h3⟩ := h
  exact ⟨h0, h1, h2, h3.sl⟩

end Go.Proofs.Ytnjindgpmacjmaa
