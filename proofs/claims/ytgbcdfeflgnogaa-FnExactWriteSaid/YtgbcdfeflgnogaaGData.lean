/- The data of the Go struct Data: how it lies in memory (no program in sight). Conditions: none. -/
import Derived.Test.YtgbcdfeflgnogaaMem
import Derived.Test.YtgbcdfeflgnogaaGCon
namespace Go.Proofs.Ytgbcdfeflgnogaa
open Go.RowKit
set_option linter.unusedVariables false
set_option linter.unusedSimpArgs false

structure GData where
  name : ByteArray
  vars : Int
  cons : List GCon

def GData.toD (x : GData) : D := .agg [.str x.name, .num .i64 x.vars, .sl 2 (x.cons.map GCon.toD)]

/-- how much it holds, as the laws count it -/
def GData.bulk (x : GData) : Nat := x.name.size + bulkL GCon.bulk x.cons

theorem GData.bulk_eq (t : GData) : t.bulk = t.name.size + bulkL GCon.bulk t.cons := rfl

/-- the facts of a struct that lies in memory: its cells are .string t.name, .int .i64 t.vars, .slice A1 t.cons.length c1 -/
def GData.At (w : World) (S : Nat → Prop) (A1 : Option Addr) (c1 : Nat) (t : GData) : Prop :=
  t.name.size ≤ maxLen ∧ (Lit.int .i64 t.vars).wf = true ∧ Sl w S 2 A1 c1 (t.cons.map GCon.toD)

theorem GData.rd {w : World} {S : Nat → Prop} {t : GData} {cs : List Value} (h : t.toD.rd w S cs) : ∃ A1 c1, cs = [.string t.name, .int .i64 t.vars, .slice A1 t.cons.length c1] ∧ GData.At w S A1 c1 t := by
  unfold GData.toD at h
  rw [D.rd_agg] at h
  rw [D.rdF_cons] at h
  obtain ⟨x0, r0, rfl, k0, h⟩ := h
  obtain ⟨rfl, h0⟩ := D.rd_str.1 k0
  rw [D.rdF_cons] at h
  obtain ⟨x1, r1, rfl, k1, h⟩ := h
  obtain ⟨rfl, h1⟩ := D.rd_num.1 k1
  rw [D.rdF_cons] at h
  obtain ⟨x2, r2, rfl, k2, h⟩ := h
  obtain ⟨A1, c1, rfl, h2⟩ := D.rd_sl.1 k2
  obtain rfl := D.rdF_nil.1 h
  exact ⟨A1, c1, by simp [List.length_map], h0, h1, h2⟩

theorem GData.rd_mk {w : World} {S : Nat → Prop} {t : GData} {A1 : Option Addr} {c1 : Nat} (h : GData.At w S A1 c1 t) : t.toD.rd w S [.string t.name, .int .i64 t.vars, .slice A1 t.cons.length c1] := by
  unfold GData.toD
  unfold GData.At at h
  obtain ⟨h0, h1, h2⟩ := h
  rw [D.rd_agg]
  exact D.rdF_cons.2 ⟨[_], [_, _], rfl, D.rd_str.2 ⟨rfl, h0⟩, D.rdF_cons.2 ⟨[_], [_], rfl, D.rd_num.2 ⟨rfl, h1⟩, D.rdF_cons.2 ⟨[_], [], rfl, D.rd_sl.2 ⟨A1, c1, by simp [List.length_map], h2⟩, D.rdF_nil.2 rfl⟩⟩⟩

theorem GData.elem {w : World} {S : Nat → Prop} {A : Option Addr} {c : Nat} {l : List GData} (h : Sl w S 3 A c (l.map GData.toD)) (i : Nat) (hi : i < l.length) :
    ∃ b off A1 c1, A = some ⟨b, off, none⟩ ∧ S b ∧ w.cell? ⟨b, off + i * 3, none⟩ = some (.string l[i].name) ∧ w.cell? ⟨b, off + i * 3 + 1, none⟩ = some (.int .i64 l[i].vars) ∧ w.cell? ⟨b, off + i * 3 + 2, none⟩ = some (.slice A1 l[i].cons.length c1) ∧ GData.At w S A1 c1 l[i] := by
  obtain ⟨b, off, cs, e, hb, hl, hc, hr⟩ := Sl.get h i (by simpa using hi)
  rw [List.getElem_map] at hr
  obtain ⟨A1, c1, rfl, h1⟩ := GData.rd hr
  exact ⟨b, off, A1, c1, e, hb, hc 0 _ rfl, hc 1 _ rfl, hc 2 _ rfl, h1⟩

theorem GData.At.keep {w w' : World} {S S' : Nat → Prop} {t : GData} {A1 : Option Addr} {c1 : Nat} (h : GData.At w S A1 c1 t) (hk : ∀ b, S b → S' b ∧ w'.heap[b]? = w.heap[b]?) : GData.At w' S' A1 c1 t := by
  unfold GData.At at h ⊢
  obtain ⟨h0, h1, h2⟩ := h
  exact ⟨h0, h1, h2.keep hk⟩
theorem GData.At.below {w w' : World} {B B' : Nat} {t : GData} {A1 : Option Addr} {c1 : Nat} (h : GData.At w (Lt B) A1 c1 t) (hb : Below B w w') (hB : B ≤ B') : GData.At w' (Lt B') A1 c1 t :=
  h.keep (keep_below hb hB)

/-- the same, owned -/
def GData.Ow (w : World) (S : Nat → Prop) (A1 : Option Addr) (c1 : Nat) (t : GData) : Prop :=
  t.name.size ≤ maxLen ∧ (Lit.int .i64 t.vars).wf = true ∧ Osl w S 2 A1 c1 (t.cons.map GCon.toD)

theorem GData.own_mk {w : World} {S : Nat → Prop} {t : GData} {A1 : Option Addr} {c1 : Nat} (h : GData.Ow w S A1 c1 t) : t.toD.own w S [.string t.name, .int .i64 t.vars, .slice A1 t.cons.length c1] := by
  unfold GData.toD
  unfold GData.Ow at h
  obtain ⟨h0, h1, h2⟩ := h
  rw [D.own_agg]
  exact D.ownF_plain (c1 := [_]) (c2 := [_, _]) (D.own_str.2 ⟨rfl, h0⟩) (D.ownF_plain (c1 := [_]) (c2 := [_]) (D.own_num.2 ⟨rfl, h1⟩) (D.ownF_last (D.own_sl.2 ⟨A1, c1, by simp [List.length_map], h2⟩)))

theorem GData.Ow.keep {w w' : World} {S S' : Nat → Prop} {t : GData} {A1 : Option Addr} {c1 : Nat} (h : GData.Ow w S A1 c1 t) (hk : ∀ b, S b → S' b ∧ w'.heap[b]? = w.heap[b]?) : GData.Ow w' S' A1 c1 t := by
  unfold GData.Ow at h ⊢
  obtain ⟨h0, h1, h2⟩ := h
  exact ⟨h0, h1, h2.keep hk⟩
theorem GData.Ow.at {w : World} {S : Nat → Prop} {t : GData} {A1 : Option Addr} {c1 : Nat} (h : GData.Ow w S A1 c1 t) : GData.At w S A1 c1 t := by
  unfold GData.Ow at h
  unfold GData.At
  obtain ⟨h0, h1, h2⟩ := h
  exact ⟨h0, h1, h2.sl⟩

end Go.Proofs.Ytgbcdfeflgnogaa
