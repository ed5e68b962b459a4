/- The data of the Go struct Fun: how it lies in memory (no program in sight). Conditions: none. -/
import Derived.Test.YtgbcdfeflgnogaaMem
import Derived.Test.YtgbcdfeflgnogaaGOp
namespace Go.Proofs.Ytgbcdfeflgnogaa
open Go.RowKit
set_option linter.unusedVariables false
set_option linter.unusedSimpArgs false

structure GFun where
  free : Int
  list : List GOp

def GFun.toD (x : GFun) : D := .agg [.num .i64 x.free, .sl 3 (x.list.map GOp.toD)]

/-- how much it holds, as the laws count it -/
def GFun.bulk (x : GFun) : Nat := bulkL GOp.bulk x.list

theorem GFun.bulk_eq (t : GFun) : t.bulk = bulkL GOp.bulk t.list := rfl

/-- the facts of a struct that lies in memory: its cells are .int .i64 t.free, .slice A1 t.list.length c1 -/
def GFun.At (w : World) (S : Nat → Prop) (A1 : Option Addr) (c1 : Nat) (t : GFun) : Prop :=
  (Lit.int .i64 t.free).wf = true ∧ Sl w S 3 A1 c1 (t.list.map GOp.toD)

theorem GFun.rd {w : World} {S : Nat → Prop} {t : GFun} {cs : List Value} (h : t.toD.rd w S cs) : ∃ A1 c1, cs = [.int .i64 t.free, .slice A1 t.list.length c1] ∧ GFun.At w S A1 c1 t := by
  unfold GFun.toD at h
  rw [D.rd_agg] at h
  rw [D.rdF_cons] at h
  obtain ⟨x0, r0, rfl, k0, h⟩ := h
  obtain ⟨rfl, h0⟩ := D.rd_num.1 k0
  rw [D.rdF_cons] at h
  obtain ⟨x1, r1, rfl, k1, h⟩ := h
  obtain ⟨A1, c1, rfl, h1⟩ := D.rd_sl.1 k1
  obtain rfl := D.rdF_nil.1 h
  exact ⟨A1, c1, by simp [List.length_map], h0, h1⟩

theorem GFun.rd_mk {w : World} {S : Nat → Prop} {t : GFun} {A1 : Option Addr} {c1 : Nat} (h : GFun.At w S A1 c1 t) : t.toD.rd w S [.int .i64 t.free, .slice A1 t.list.length c1] := by
  unfold GFun.toD
  unfold GFun.At at h
  obtain ⟨h0, h1⟩ := h
  rw [D.rd_agg]
  exact D.rdF_cons.2 ⟨[_], [_], rfl, D.rd_num.2 ⟨rfl, h0⟩, D.rdF_cons.2 ⟨[_], [], rfl, D.rd_sl.2 ⟨A1, c1, by simp [List.length_map], h1⟩, D.rdF_nil.2 rfl⟩⟩

theorem GFun.elem {w : World} {S : Nat → Prop} {A : Option Addr} {c : Nat} {l : List GFun} (h : Sl w S 2 A c (l.map GFun.toD)) (i : Nat) (hi : i < l.length) :
    ∃ b off A1 c1, A = some ⟨b, off, none⟩ ∧ S b ∧ w.cell? ⟨b, off + i * 2, none⟩ = some (.int .i64 l[i].free) ∧ w.cell? ⟨b, off + i * 2 + 1, none⟩ = some (.slice A1 l[i].list.length c1) ∧ GFun.At w S A1 c1 l[i] := by
  obtain ⟨b, off, cs, e, hb, hl, hc, hr⟩ := Sl.get h i (by simpa using hi)
  rw [List.getElem_map] at hr
  obtain ⟨A1, c1, rfl, h1⟩ := GFun.rd hr
  exact ⟨b, off, A1, c1, e, hb, hc 0 _ rfl, hc 1 _ rfl, h1⟩

theorem GFun.At.keep {w w' : World} {S S' : Nat → Prop} {t : GFun} {A1 : Option Addr} {c1 : Nat} (h : GFun.At w S A1 c1 t) (hk : ∀ b, S b → S' b ∧ w'.heap[b]? = w.heap[b]?) : GFun.At w' S' A1 c1 t := by
  unfold GFun.At at h ⊢
  obtain ⟨h0, h1⟩ := h
  exact ⟨h0, h1.keep hk⟩
theorem GFun.At.below {w w' : World} {B B' : Nat} {t : GFun} {A1 : Option Addr} {c1 : Nat} (h : GFun.At w (Lt B) A1 c1 t) (hb : Below B w w') (hB : B ≤ B') : GFun.At w' (Lt B') A1 c1 t :=
  h.keep (keep_below hb hB)

/-- the same, owned -/
def GFun.Ow (w : World) (S : Nat → Prop) (A1 : Option Addr) (c1 : Nat) (t : GFun) : Prop :=
  (Lit.int .i64 t.free).wf = true ∧ Osl w S 3 A1 c1 (t.list.map GOp.toD)

theorem GFun.own_mk {w : World} {S : Nat → Prop} {t : GFun} {A1 : Option Addr} {c1 : Nat} (h : GFun.Ow w S A1 c1 t) : t.toD.own w S [.int .i64 t.free, .slice A1 t.list.length c1] := by
  unfold GFun.toD
  unfold GFun.Ow at h
  obtain ⟨h0, h1⟩ := h
  rw [D.own_agg]
  exact D.ownF_plain (c1 := [_]) (c2 := [_]) (D.own_num.2 ⟨rfl, h0⟩) (D.ownF_last (D.own_sl.2 ⟨A1, c1, by simp [List.length_map], h1⟩))

theorem GFun.Ow.keep {w w' : World} {S S' : Nat → Prop} {t : GFun} {A1 : Option Addr} {c1 : Nat} (h : GFun.Ow w S A1 c1 t) (hk : ∀ b, S b → S' b ∧ w'.heap[b]? = w.heap[b]?) : GFun.Ow w' S' A1 c1 t := by
  unfold GFun.Ow at h ⊢
  obtain ⟨h0, h1⟩ := h
  exact ⟨h0, h1.keep hk⟩
theorem GFun.Ow.at {w : World} {S : Nat → Prop} {t : GFun} {A1 : Option Addr} {c1 : Nat} (h : GFun.Ow w S A1 c1 t) : GFun.At w S A1 c1 t := by
  unfold GFun.Ow at h
  unfold GFun.At
  obtain ⟨h0, h1⟩ := h
  exact ⟨h0, h1.sl⟩

end Go.Proofs.Ytgbcdfeflgnogaa
