/- The data of the Go struct Con: how it lies in memory (no program in sight). Conditions: none. -/
import Derived.Test.YtgbcdfeflgnogaaMem
import Derived.Test.YtgbcdfeflgnogaaGTy
namespace Go.Proofs.Ytgbcdfeflgnogaa
open Go.RowKit
set_option linter.unusedVariables false
set_option linter.unusedSimpArgs false

structure GCon where
  name : ByteArray
  args : List GTy

def GCon.toD (x : GCon) : D := .agg [.str x.name, .sl 4 (x.args.map GTy.toD)]

/-- how much it holds, as the laws count it -/
def GCon.bulk (x : GCon) : Nat := x.name.size + bulkL GTy.bulk x.args

theorem GCon.bulk_eq (t : GCon) : t.bulk = t.name.size + bulkL GTy.bulk t.args := rfl

/-- the facts of a struct that lies in memory: its cells are .string t.name, .slice A1 t.args.length c1 -/
def GCon.At (w : World) (S : Nat → Prop) (A1 : Option Addr) (c1 : Nat) (t : GCon) : Prop :=
  t.name.size ≤ maxLen ∧ Sl w S 4 A1 c1 (t.args.map GTy.toD)

theorem GCon.rd {w : World} {S : Nat → Prop} {t : GCon} {cs : List Value} (h : t.toD.rd w S cs) : ∃ A1 c1, cs = [.string t.name, .slice A1 t.args.length c1] ∧ GCon.At w S A1 c1 t := by
  unfold GCon.toD at h
  rw [D.rd_agg] at h
  rw [D.rdF_cons] at h
  obtain ⟨x0, r0, rfl, k0, h⟩ := h
  obtain ⟨rfl, h0⟩ := D.rd_str.1 k0
  rw [D.rdF_cons] at h
  obtain ⟨x1, r1, rfl, k1, h⟩ := h
  obtain ⟨A1, c1, rfl, h1⟩ := D.rd_sl.1 k1
  obtain rfl := D.rdF_nil.1 h
  exact ⟨A1, c1, by simp [List.length_map], h0, h1⟩

theorem GCon.rd_mk {w : World} {S : Nat → Prop} {t : GCon} {A1 : Option Addr} {c1 : Nat} (h : GCon.At w S A1 c1 t) : t.toD.rd w S [.string t.name, .slice A1 t.args.length c1] := by
  unfold GCon.toD
  unfold GCon.At at h
  obtain ⟨h0, h1⟩ := h
  rw [D.rd_agg]
  exact D.rdF_cons.2 ⟨[_], [_], rfl, D.rd_str.2 ⟨rfl, h0⟩, D.rdF_cons.2 ⟨[_], [], rfl, D.rd_sl.2 ⟨A1, c1, by simp [List.length_map], h1⟩, D.rdF_nil.2 rfl⟩⟩

theorem GCon.elem {w : World} {S : Nat → Prop} {A : Option Addr} {c : Nat} {l : List GCon} (h : Sl w S 2 A c (l.map GCon.toD)) (i : Nat) (hi : i < l.length) :
    ∃ b off A1 c1, A = some ⟨b, off, none⟩ ∧ S b ∧ w.cell? ⟨b, off + i * 2, none⟩ = some (.string l[i].name) ∧ w.cell? ⟨b, off + i * 2 + 1, none⟩ = some (.slice A1 l[i].args.length c1) ∧ GCon.At w S A1 c1 l[i] := by
  obtain ⟨b, off, cs, e, hb, hl, hc, hr⟩ := Sl.get h i (by simpa using hi)
  rw [List.getElem_map] at hr
  obtain ⟨A1, c1, rfl, h1⟩ := GCon.rd hr
  exact ⟨b, off, A1, c1, e, hb, hc 0 _ rfl, hc 1 _ rfl, h1⟩

theorem GCon.At.keep {w w' : World} {S S' : Nat → Prop} {t : GCon} {A1 : Option Addr} {c1 : Nat} (h : GCon.At w S A1 c1 t) (hk : ∀ b, S b → S' b ∧ w'.heap[b]? = w.heap[b]?) : GCon.At w' S' A1 c1 t := by
  unfold GCon.At at h ⊢
  obtain ⟨h0, h1⟩ := h
  exact ⟨h0, h1.keep hk⟩
theorem GCon.At.below {w w' : World} {B B' : Nat} {t : GCon} {A1 : Option Addr} {c1 : Nat} (h : GCon.At w (Lt B) A1 c1 t) (hb : Below B w w') (hB : B ≤ B') : GCon.At w' (Lt B') A1 c1 t :=
  h.keep (keep_below hb hB)

/-- the same, owned -/
def GCon.Ow (w : World) (S : Nat → Prop) (A1 : Option Addr) (c1 : Nat) (t : GCon) : Prop :=
  t.name.size ≤ maxLen ∧ Osl w S 4 A1 c1 (t.args.map GTy.toD)

theorem GCon.own_mk {w : World} {S : Nat → Prop} {t : GCon} {A1 : Option Addr} {c1 : Nat} (h : GCon.Ow w S A1 c1 t) : t.toD.own w S [.string t.name, .slice A1 t.args.length c1] := by
  unfold GCon.toD
  unfold GCon.Ow at h
  obtain ⟨h0, h1⟩ := h
  rw [D.own_agg]
  exact D.ownF_plain (c1 := [_]) (c2 := [_]) (D.own_str.2 ⟨rfl, h0⟩) (D.ownF_last (D.own_sl.2 ⟨A1, c1, by simp [List.length_map], h1⟩))

theorem GCon.Ow.keep {w w' : World} {S S' : Nat → Prop} {t : GCon} {A1 : Option Addr} {c1 : Nat} (h : GCon.Ow w S A1 c1 t) (hk : ∀ b, S b → S' b ∧ w'.heap[b]? = w.heap[b]?) : GCon.Ow w' S' A1 c1 t := by
  unfold GCon.Ow at h ⊢
  obtain ⟨h0, h1⟩ := h
  exact ⟨h0, h1.keep hk⟩
theorem GCon.Ow.at {w : World} {S : Nat → Prop} {t : GCon} {A1 : Option Addr} {c1 : Nat} (h : GCon.Ow w S A1 c1 t) : GCon.At w S A1 c1 t := by
  unfold GCon.Ow at h
  unfold GCon.At
  obtain ⟨h0, h1⟩ := h
  exact ⟨h0, h1.sl⟩

end Go.Proofs.Ytgbcdfeflgnogaa
