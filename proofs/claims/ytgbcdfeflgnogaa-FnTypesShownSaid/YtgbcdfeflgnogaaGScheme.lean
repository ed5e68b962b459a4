/- The data of the Go struct Scheme: how it lies in memory (no program in sight). Conditions: none. -/
import Derived.Test.YtgbcdfeflgnogaaMem
import Derived.Test.YtgbcdfeflgnogaaGTy
namespace Go.Proofs.Ytgbcdfeflgnogaa
open Go.RowKit
set_option linter.unusedVariables false
set_option linter.unusedSimpArgs false

structure GScheme where
  vars : List Int
  ty : GTy

def GScheme.toD (x : GScheme) : D := .agg [.sl 1 (x.vars.map (D.num .i64)), x.ty.toD]

/-- how much it holds, as the laws count it -/
def GScheme.bulk (x : GScheme) : Nat := x.vars.length + x.ty.bulk

theorem GScheme.bulk_eq (t : GScheme) : t.bulk = t.vars.length + t.ty.bulk := rfl

/-- the facts of a struct that lies in memory: its cells are .slice A1 t.vars.length c1, .int .i64 t.ty.op, .int .i64 t.ty.n, .string t.ty.s, .slice A2 t.ty.kids.length c2 -/
def GScheme.At (w : World) (S : Nat → Prop) (A1 : Option Addr) (c1 : Nat) (A2 : Option Addr) (c2 : Nat) (t : GScheme) : Prop :=
  Sl w S 1 A1 c1 (t.vars.map (D.num .i64)) ∧ GTy.At w S A2 c2 t.ty

theorem GScheme.rd {w : World} {S : Nat → Prop} {t : GScheme} {cs : List Value} (h : t.toD.rd w S cs) : ∃ A1 c1 A2 c2, cs = [.slice A1 t.vars.length c1, .int .i64 t.ty.op, .int .i64 t.ty.n, .string t.ty.s, .slice A2 t.ty.kids.length c2] ∧ GScheme.At w S A1 c1 A2 c2 t := by
  unfold GScheme.toD at h
  rw [D.rd_agg] at h
  rw [D.rdF_cons] at h
  obtain ⟨x0, r0, rfl, k0, h⟩ := h
  obtain ⟨A1, c1, rfl, h0⟩ := D.rd_sl.1 k0
  rw [D.rdF_cons] at h
  obtain ⟨x1, r1, rfl, k1, h⟩ := h
  obtain ⟨A2, c2, rfl, h1⟩ := GTy.rd k1
  obtain rfl := D.rdF_nil.1 h
  exact ⟨A1, c1, A2, c2, by simp [List.length_map], h0, h1⟩

theorem GScheme.rd_mk {w : World} {S : Nat → Prop} {t : GScheme} {A1 : Option Addr} {c1 : Nat} {A2 : Option Addr} {c2 : Nat} (h : GScheme.At w S A1 c1 A2 c2 t) : t.toD.rd w S [.slice A1 t.vars.length c1, .int .i64 t.ty.op, .int .i64 t.ty.n, .string t.ty.s, .slice A2 t.ty.kids.length c2] := by
  unfold GScheme.toD
  unfold GScheme.At at h
  obtain ⟨h0, h1⟩ := h
  rw [D.rd_agg]
  exact D.rdF_cons.2 ⟨[_], [_, _, _, _], rfl, D.rd_sl.2 ⟨A1, c1, by simp [List.length_map], h0⟩, D.rdF_cons.2 ⟨[_, _, _, _], [], rfl, GTy.rd_mk h1, D.rdF_nil.2 rfl⟩⟩

theorem GScheme.elem {w : World} {S : Nat → Prop} {A : Option Addr} {c : Nat} {l : List GScheme} (h : Sl w S 5 A c (l.map GScheme.toD)) (i : Nat) (hi : i < l.length) :
    ∃ b off A1 c1 A2 c2, A = some ⟨b, off, none⟩ ∧ S b ∧ w.cell? ⟨b, off + i * 5, none⟩ = some (.slice A1 l[i].vars.length c1) ∧ w.cell? ⟨b, off + i * 5 + 1, none⟩ = some (.int .i64 l[i].ty.op) ∧ w.cell? ⟨b, off + i * 5 + 2, none⟩ = some (.int .i64 l[i].ty.n) ∧ w.cell? ⟨b, off + i * 5 + 3, none⟩ = some (.string l[i].ty.s) ∧ w.cell? ⟨b, off + i * 5 + 4, none⟩ = some (.slice A2 l[i].ty.kids.length c2) ∧ GScheme.At w S A1 c1 A2 c2 l[i] := by
  obtain ⟨b, off, cs, e, hb, hl, hc, hr⟩ := Sl.get h i (by simpa using hi)
  rw [List.getElem_map] at hr
  obtain ⟨A1, c1, A2, c2, rfl, h1⟩ := GScheme.rd hr
  exact ⟨b, off, A1, c1, A2, c2, e, hb, hc 0 _ rfl, hc 1 _ rfl, hc 2 _ rfl, hc 3 _ rfl, hc 4 _ rfl, h1⟩

theorem GScheme.At.keep {w w' : World} {S S' : Nat → Prop} {t : GScheme} {A1 : Option Addr} {c1 : Nat} {A2 : Option Addr} {c2 : Nat} (h : GScheme.At w S A1 c1 A2 c2 t) (hk : ∀ b, S b → S' b ∧ w'.heap[b]? = w.heap[b]?) : GScheme.At w' S' A1 c1 A2 c2 t := by
  unfold GScheme.At at h ⊢
  obtain ⟨h0, h1⟩ := h
  exact ⟨h0.keep hk, h1.keep hk⟩
theorem GScheme.At.below {w w' : World} {B B' : Nat} {t : GScheme} {A1 : Option Addr} {c1 : Nat} {A2 : Option Addr} {c2 : Nat} (h : GScheme.At w (Lt B) A1 c1 A2 c2 t) (hb : Below B w w') (hB : B ≤ B') : GScheme.At w' (Lt B') A1 c1 A2 c2 t :=
  h.keep (keep_below hb hB)

/-- the same, owned -/
def GScheme.Ow (w : World) (S : Nat → Prop) (A1 : Option Addr) (c1 : Nat) (A2 : Option Addr) (c2 : Nat) (t : GScheme) : Prop :=
  ∃ S1 S2 : Nat → Prop, (∀ x, S1 x → S x) ∧ (∀ x, S2 x → S x) ∧ (∀ x, S1 x → ¬ S2 x) ∧ Osl w S1 1 A1 c1 (t.vars.map (D.num .i64)) ∧ GTy.Ow w S2 A2 c2 t.ty

theorem GScheme.own_mk {w : World} {S : Nat → Prop} {t : GScheme} {A1 : Option Addr} {c1 : Nat} {A2 : Option Addr} {c2 : Nat} (h : GScheme.Ow w S A1 c1 A2 c2 t) : t.toD.own w S [.slice A1 t.vars.length c1, .int .i64 t.ty.op, .int .i64 t.ty.n, .string t.ty.s, .slice A2 t.ty.kids.length c2] := by
  unfold GScheme.toD
  unfold GScheme.Ow at h
  obtain ⟨S1, S2, g1, g2, d12, h0, h1⟩ := h
  rw [D.own_agg]
  exact D.ownF_cons (S := S) (S1 := S1) (S2 := S2) (c1 := [_]) (c2 := [_, _, _, _]) (fun x hx => ⟨g1 x hx, fun h => d12 x hx h⟩) (g2) (D.own_sl.2 ⟨A1, c1, by simp [List.length_map], h0⟩) (D.ownF_last (GTy.own_mk h1))

theorem GScheme.Ow.keep {w w' : World} {S S' : Nat → Prop} {t : GScheme} {A1 : Option Addr} {c1 : Nat} {A2 : Option Addr} {c2 : Nat} (h : GScheme.Ow w S A1 c1 A2 c2 t) (hk : ∀ b, S b → S' b ∧ w'.heap[b]? = w.heap[b]?) : GScheme.Ow w' S' A1 c1 A2 c2 t := by
  unfold GScheme.Ow at h ⊢
  obtain ⟨S1, S2, g1, g2, d12, h0, h1⟩ := h
  exact ⟨S1, S2, fun x hx => (hk x (g1 x hx)).1, fun x hx => (hk x (g2 x hx)).1, d12, h0.keep fun b hb => ⟨hb, (hk b (g1 b hb)).2⟩, h1.keep fun b hb => ⟨hb, (hk b (g2 b hb)).2⟩⟩
theorem GScheme.Ow.at {w : World} {S : Nat → Prop} {t : GScheme} {A1 : Option Addr} {c1 : Nat} {A2 : Option Addr} {c2 : Nat} (h : GScheme.Ow w S A1 c1 A2 c2 t) : GScheme.At w S A1 c1 A2 c2 t := by
  unfold GScheme.Ow at h
  unfold GScheme.At
  obtain ⟨S1, S2, g1, g2, d12, h0, h1⟩ := h
  exact ⟨h0.sl.keep fun b hb => ⟨g1 b hb, rfl⟩, h1.at.keep fun b hb => ⟨g2 b hb, rfl⟩⟩

end Go.Proofs.Ytgbcdfeflgnogaa
