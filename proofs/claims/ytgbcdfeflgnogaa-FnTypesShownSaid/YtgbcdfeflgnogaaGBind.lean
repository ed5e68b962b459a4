/- The data of the Go struct Bind: how it lies in memory (no program in sight). Conditions: none. -/
import Derived.Test.YtgbcdfeflgnogaaMem
import Derived.Test.YtgbcdfeflgnogaaGTy
namespace Go.Proofs.Ytgbcdfeflgnogaa
open Go.RowKit
set_option linter.unusedVariables false
set_option linter.unusedSimpArgs false

structure GBind where
  n : Int
  ty : GTy

def GBind.toD (x : GBind) : D := .agg [.num .i64 x.n, x.ty.toD]

/-- how much it holds, as the laws count it -/
def GBind.bulk (x : GBind) : Nat := x.ty.bulk

theorem GBind.bulk_eq (t : GBind) : t.bulk = t.ty.bulk := rfl

/-- the facts of a struct that lies in memory: its cells are .int .i64 t.n, .int .i64 t.ty.op, .int .i64 t.ty.n, .string t.ty.s, .slice A1 t.ty.kids.length c1 -/
def GBind.At (w : World) (S : Nat → Prop) (A1 : Option Addr) (c1 : Nat) (t : GBind) : Prop :=
  (Lit.int .i64 t.n).wf = true ∧ GTy.At w S A1 c1 t.ty

theorem GBind.rd {w : World} {S : Nat → Prop} {t : GBind} {cs : List Value} (h : t.toD.rd w S cs) : ∃ A1 c1, cs = [.int .i64 t.n, .int .i64 t.ty.op, .int .i64 t.ty.n, .string t.ty.s, .slice A1 t.ty.kids.length c1] ∧ GBind.At w S A1 c1 t := by
  unfold GBind.toD at h
  rw [D.rd_agg] at h
  rw [D.rdF_cons] at h
  obtain ⟨x0, r0, rfl, k0, h⟩ := h
  obtain ⟨rfl, h0⟩ := D.rd_num.1 k0
  rw [D.rdF_cons] at h
  obtain ⟨x1, r1, rfl, k1, h⟩ := h
  obtain ⟨A1, c1, rfl, h1⟩ := GTy.rd k1
  obtain rfl := D.rdF_nil.1 h
  exact ⟨A1, c1, by simp [List.length_map], h0, h1⟩

theorem GBind.rd_mk {w : World} {S : Nat → Prop} {t : GBind} {A1 : Option Addr} {c1 : Nat} (h : GBind.At w S A1 c1 t) : t.toD.rd w S [.int .i64 t.n, .int .i64 t.ty.op, .int .i64 t.ty.n, .string t.ty.s, .slice A1 t.ty.kids.length c1] := by
  unfold GBind.toD
  unfold GBind.At at h
  obtain ⟨h0, h1⟩ := h
  rw [D.rd_agg]
  exact D.rdF_cons.2 ⟨[_], [_, _, _, _], rfl, D.rd_num.2 ⟨rfl, h0⟩, D.rdF_cons.2 ⟨[_, _, _, _], [], rfl, GTy.rd_mk h1, D.rdF_nil.2 rfl⟩⟩

theorem GBind.elem {w : World} {S : Nat → Prop} {A : Option Addr} {c : Nat} {l : List GBind} (h : Sl w S 5 A c (l.map GBind.toD)) (i : Nat) (hi : i < l.length) :
    ∃ b off A1 c1, A = some ⟨b, off, none⟩ ∧ S b ∧ w.cell? ⟨b, off + i * 5, none⟩ = some (.int .i64 l[i].n) ∧ w.cell? ⟨b, off + i * 5 + 1, none⟩ = some (.int .i64 l[i].ty.op) ∧ w.cell? ⟨b, off + i * 5 + 2, none⟩ = some (.int .i64 l[i].ty.n) ∧ w.cell? ⟨b, off + i * 5 + 3, none⟩ = some (.string l[i].ty.s) ∧ w.cell? ⟨b, off + i * 5 + 4, none⟩ = some (.slice A1 l[i].ty.kids.length c1) ∧ GBind.At w S A1 c1 l[i] := by
  obtain ⟨b, off, cs, e, hb, hl, hc, hr⟩ := Sl.get h i (by simpa using hi)
  rw [List.getElem_map] at hr
  obtain ⟨A1, c1, rfl, h1⟩ := GBind.rd hr
  exact ⟨b, off, A1, c1, e, hb, hc 0 _ rfl, hc 1 _ rfl, hc 2 _ rfl, hc 3 _ rfl, hc 4 _ rfl, h1⟩

theorem GBind.At.keep {w w' : World} {S S' : Nat → Prop} {t : GBind} {A1 : Option Addr} {c1 : Nat} (h : GBind.At w S A1 c1 t) (hk : ∀ b, S b → S' b ∧ w'.heap[b]? = w.heap[b]?) : GBind.At w' S' A1 c1 t := by
  unfold GBind.At at h ⊢
  obtain ⟨h0, h1⟩ := h
  exact ⟨h0, h1.keep hk⟩
theorem GBind.At.below {w w' : World} {B B' : Nat} {t : GBind} {A1 : Option Addr} {c1 : Nat} (h : GBind.At w (Lt B) A1 c1 t) (hb : Below B w w') (hB : B ≤ B') : GBind.At w' (Lt B') A1 c1 t :=
  h.keep (keep_below hb hB)

/-- the same, owned -/
def GBind.Ow (w : World) (S : Nat → Prop) (A1 : Option Addr) (c1 : Nat) (t : GBind) : Prop :=
  (Lit.int .i64 t.n).wf = true ∧ GTy.Ow w S A1 c1 t.ty

theorem GBind.own_mk {w : World} {S : Nat → Prop} {t : GBind} {A1 : Option Addr} {c1 : Nat} (h : GBind.Ow w S A1 c1 t) : t.toD.own w S [.int .i64 t.n, .int .i64 t.ty.op, .int .i64 t.ty.n, .string t.ty.s, .slice A1 t.ty.kids.length c1] := by
  unfold GBind.toD
  unfold GBind.Ow at h
  obtain ⟨h0, h1⟩ := h
  rw [D.own_agg]
  exact D.ownF_plain (c1 := [_]) (c2 := [_, _, _, _]) (D.own_num.2 ⟨rfl, h0⟩) (D.ownF_last (GTy.own_mk h1))

theorem GBind.Ow.keep {w w' : World} {S S' : Nat → Prop} {t : GBind} {A1 : Option Addr} {c1 : Nat} (h : GBind.Ow w S A1 c1 t) (hk : ∀ b, S b → S' b ∧ w'.heap[b]? = w.heap[b]?) : GBind.Ow w' S' A1 c1 t := by
  unfold GBind.Ow at h ⊢
  obtain ⟨h0, h1⟩ := h
  exact ⟨h0, h1.keep hk⟩
theorem GBind.Ow.at {w : World} {S : Nat → Prop} {t : GBind} {A1 : Option Addr} {c1 : Nat} (h : GBind.Ow w S A1 c1 t) : GBind.At w S A1 c1 t := by
  unfold GBind.Ow at h
  unfold GBind.At
  obtain ⟨h0, h1⟩ := h
  exact ⟨h0, h1.at⟩

end Go.Proofs.Ytgbcdfeflgnogaa
