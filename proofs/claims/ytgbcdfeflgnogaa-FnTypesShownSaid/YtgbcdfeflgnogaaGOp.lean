/- The data of the Go struct Op: how it lies in memory (no program in sight). Conditions: none. -/
import Derived.Test.YtgbcdfeflgnogaaMem
namespace Go.Proofs.Ytgbcdfeflgnogaa
open Go.RowKit
set_option linter.unusedVariables false
set_option linter.unusedSimpArgs false

structure GOp where
  code : Int
  n : Int
  m : Int

def GOp.toD (x : GOp) : D := .agg [.num .i64 x.code, .num .i64 x.n, .num .i64 x.m]

/-- how much it holds, as the laws count it -/
def GOp.bulk (x : GOp) : Nat := 0

theorem GOp.bulk_eq (t : GOp) : t.bulk = 0 := rfl

/-- the facts of a struct that lies in memory: its cells are .int .i64 t.code, .int .i64 t.n, .int .i64 t.m -/
def GOp.At (w : World) (S : Nat → Prop)  (t : GOp) : Prop :=
  (Lit.int .i64 t.code).wf = true ∧ (Lit.int .i64 t.n).wf = true ∧ (Lit.int .i64 t.m).wf = true

theorem GOp.rd {w : World} {S : Nat → Prop} {t : GOp} {cs : List Value} (h : t.toD.rd w S cs) : cs = [.int .i64 t.code, .int .i64 t.n, .int .i64 t.m] ∧ GOp.At w S  t := by
  unfold GOp.toD at h
  rw [D.rd_agg] at h
  rw [D.rdF_cons] at h
  obtain ⟨x0, r0, rfl, k0, h⟩ := h
  obtain ⟨rfl, h0⟩ := D.rd_num.1 k0
  rw [D.rdF_cons] at h
  obtain ⟨x1, r1, rfl, k1, h⟩ := h
  obtain ⟨rfl, h1⟩ := D.rd_num.1 k1
  rw [D.rdF_cons] at h
  obtain ⟨x2, r2, rfl, k2, h⟩ := h
  obtain ⟨rfl, h2⟩ := D.rd_num.1 k2
  obtain rfl := D.rdF_nil.1 h
  exact ⟨by simp [List.length_map], h0, h1, h2⟩

theorem GOp.rd_mk {w : World} {S : Nat → Prop} {t : GOp}  (h : GOp.At w S  t) : t.toD.rd w S [.int .i64 t.code, .int .i64 t.n, .int .i64 t.m] := by
  unfold GOp.toD
  unfold GOp.At at h
  obtain ⟨h0, h1, h2⟩ := h
  rw [D.rd_agg]
  exact D.rdF_cons.2 ⟨[_], [_, _], rfl, D.rd_num.2 ⟨rfl, h0⟩, D.rdF_cons.2 ⟨[_], [_], rfl, D.rd_num.2 ⟨rfl, h1⟩, D.rdF_cons.2 ⟨[_], [], rfl, D.rd_num.2 ⟨rfl, h2⟩, D.rdF_nil.2 rfl⟩⟩⟩

theorem GOp.elem {w : World} {S : Nat → Prop} {A : Option Addr} {c : Nat} {l : List GOp} (h : Sl w S 3 A c (l.map GOp.toD)) (i : Nat) (hi : i < l.length) :
    ∃ b off , A = some ⟨b, off, none⟩ ∧ S b ∧ w.cell? ⟨b, off + i * 3, none⟩ = some (.int .i64 l[i].code) ∧ w.cell? ⟨b, off + i * 3 + 1, none⟩ = some (.int .i64 l[i].n) ∧ w.cell? ⟨b, off + i * 3 + 2, none⟩ = some (.int .i64 l[i].m) ∧ GOp.At w S  l[i] := by
  obtain ⟨b, off, cs, e, hb, hl, hc, hr⟩ := Sl.get h i (by simpa using hi)
  rw [List.getElem_map] at hr
  obtain ⟨rfl, h1⟩ := GOp.rd hr
  exact ⟨b, off, e, hb, hc 0 _ rfl, hc 1 _ rfl, hc 2 _ rfl, h1⟩

theorem GOp.At.keep {w w' : World} {S S' : Nat → Prop} {t : GOp}  (h : GOp.At w S  t) (hk : ∀ b, S b → S' b ∧ w'.heap[b]? = w.heap[b]?) : GOp.At w' S'  t := by
  unfold GOp.At at h ⊢
  obtain ⟨h0, h1, h2⟩ := h
  exact ⟨h0, h1, h2⟩
theorem GOp.At.below {w w' : World} {B B' : Nat} {t : GOp}  (h : GOp.At w (Lt B)  t) (hb : Below B w w') (hB : B ≤ B') : GOp.At w' (Lt B')  t :=
  h.keep (keep_below hb hB)

/-- the same, owned -/
def GOp.Ow (w : World) (S : Nat → Prop)  (t : GOp) : Prop :=
  (Lit.int .i64 t.code).wf = true ∧ (Lit.int .i64 t.n).wf = true ∧ (Lit.int .i64 t.m).wf = true

theorem GOp.own_mk {w : World} {S : Nat → Prop} {t : GOp}  (h : GOp.Ow w S  t) : t.toD.own w S [.int .i64 t.code, .int .i64 t.n, .int .i64 t.m] := by
  unfold GOp.toD
  unfold GOp.Ow at h
  obtain ⟨h0, h1, h2⟩ := h
  rw [D.own_agg]
  exact D.ownF_plain (c1 := [_]) (c2 := [_, _]) (D.own_num.2 ⟨rfl, h0⟩) (D.ownF_plain (c1 := [_]) (c2 := [_]) (D.own_num.2 ⟨rfl, h1⟩) (D.ownF_plain (S := S) (c1 := [_]) (c2 := []) (D.own_num.2 ⟨rfl, h2⟩) (D.ownF_nil.2 rfl)))

theorem GOp.Ow.keep {w w' : World} {S S' : Nat → Prop} {t : GOp}  (h : GOp.Ow w S  t) (hk : ∀ b, S b → S' b ∧ w'.heap[b]? = w.heap[b]?) : GOp.Ow w' S'  t := by
  unfold GOp.Ow at h ⊢
  obtain ⟨h0, h1, h2⟩ := h
  exact ⟨h0, h1, h2⟩
theorem GOp.Ow.at {w : World} {S : Nat → Prop} {t : GOp}  (h : GOp.Ow w S  t) : GOp.At w S  t := by
  unfold GOp.Ow at h
  unfold GOp.At
  obtain ⟨h0, h1, h2⟩ := h
  exact ⟨h0, h1, h2⟩

end Go.Proofs.Ytgbcdfeflgnogaa
