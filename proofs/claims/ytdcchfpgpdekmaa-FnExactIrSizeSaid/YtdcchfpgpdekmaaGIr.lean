/- The data of the Go struct Ir: how it lies in memory (no program in sight). Conditions: none. -/
import Derived.Test.YtdcchfpgpdekmaaMem
namespace Go.Proofs.Ytdcchfpgpdekmaa
open Go.RowKit
set_option linter.unusedVariables false
set_option linter.unusedSimpArgs false

inductive GIr where
  | mk (op : Int) (n : Int) (kids : List GIr)
def GIr.op : GIr → Int | .mk x _ _ => x
def GIr.n : GIr → Int | .mk _ x _ => x
def GIr.kids : GIr → List GIr | .mk _ _ x => x

mutual
def GIr.toD : GIr → D | .mk op n kids => .agg [.num .i64 op, .num .i64 n, .sl 3 (GIr.toDs kids)]
def GIr.toDs : List GIr → List D | [] => [] | t :: r => t.toD :: GIr.toDs r
end

theorem GIr.toDs_map : ∀ l : List GIr, GIr.toDs l = l.map GIr.toD
  | [] => rfl
  | t :: r => by simp only [GIr.toDs, List.map_cons, GIr.toDs_map r]

mutual
/-- how much it holds, as the laws count it -/
def GIr.bulk : GIr → Nat | .mk _ _ kids => GIr.bulks kids
def GIr.bulks : List GIr → Nat | [] => 0 | t :: r => 1 + t.bulk + GIr.bulks r
end
theorem GIr.bulks_eq : ∀ l : List GIr, GIr.bulks l = bulkL GIr.bulk l
  | [] => rfl
  | t :: r => by simp only [GIr.bulks, bulkL, GIr.bulks_eq r]

theorem GIr.bulk_eq (t : GIr) : t.bulk = bulkL GIr.bulk t.kids := by
  cases t; simp only [GIr.bulk, GIr.bulks_eq, GIr.op, GIr.n, GIr.kids]

/-- the facts of a struct that lies in memory: its cells are .int .i64 t.op, .int .i64 t.n, .slice A1 t.kids.length c1 -/
def GIr.At (w : World) (S : Nat → Prop) (A1 : Option Addr) (c1 : Nat) (t : GIr) : Prop :=
  (Lit.int .i64 t.op).wf = true ∧ (Lit.int .i64 t.n).wf = true ∧ Sl w S 3 A1 c1 (t.kids.map GIr.toD)

theorem GIr.rd {w : World} {S : Nat → Prop} {t : GIr} {cs : List Value} (h : t.toD.rd w S cs) : ∃ A1 c1, cs = [.int .i64 t.op, .int .i64 t.n, .slice A1 t.kids.length c1] ∧ GIr.At w S A1 c1 t := by
  cases t with
  | mk op n kids =>
  simp only [GIr.toD, GIr.toDs_map] at h
  rw [D.rd_agg] at h
  rw [D.rdF_cons] at h
  obtain ⟨x0, r0, rfl, k0, h⟩ := h
  obtain ⟨rfl, h0⟩ := D.rd_num.1 k0
  rw [D.rdF_cons] at h
  obtain ⟨x1, r1, rfl, k1, h⟩ := h
  obtain ⟨rfl, h1⟩ := D.rd_num.1 k1
  rw [D.rdF_cons] at h
  obtain ⟨x2, r2, rfl, k2, h⟩ := h
  obtain ⟨A1, c1, rfl, h2⟩ := D.rd_sl.1 k2
  obtain rfl := D.rdF_nil.1 h
  exact ⟨A1, c1, by simp [GIr.op, GIr.n, GIr.kids], h0, h1, h2⟩

theorem GIr.rd_mk {w : World} {S : Nat → Prop} {t : GIr} {A1 : Option Addr} {c1 : Nat} (h : GIr.At w S A1 c1 t) : t.toD.rd w S [.int .i64 t.op, .int .i64 t.n, .slice A1 t.kids.length c1] := by
  cases t with
  | mk op n kids =>
  simp only [GIr.toD, GIr.toDs_map]
  unfold GIr.At at h
  obtain ⟨h0, h1, h2⟩ := h
  rw [D.rd_agg]
  exact D.rdF_cons.2 ⟨[_], [_, _], rfl, D.rd_num.2 ⟨rfl, h0⟩, D.rdF_cons.2 ⟨[_], [_], rfl, D.rd_num.2 ⟨rfl, h1⟩, D.rdF_cons.2 ⟨[_], [], rfl, D.rd_sl.2 ⟨A1, c1, by simp [GIr.kids], h2⟩, D.rdF_nil.2 rfl⟩⟩⟩

theorem GIr.elem {w : World} {S : Nat → Prop} {A : Option Addr} {c : Nat} {l : List GIr} (h : Sl w S 3 A c (l.map GIr.toD)) (i : Nat) (hi : i < l.length) :
    ∃ b off A1 c1, A = some ⟨b, off, none⟩ ∧ S b ∧ w.cell? ⟨b, off + i * 3, none⟩ = some (.int .i64 l[i].op) ∧ w.cell? ⟨b, off + i * 3 + 1, none⟩ = some (.int .i64 l[i].n) ∧ w.cell? ⟨b, off + i * 3 + 2, none⟩ = some (.slice A1 l[i].kids.length c1) ∧ GIr.At w S A1 c1 l[i] := by
  obtain ⟨b, off, cs, e, hb, hl, hc, hr⟩ := Sl.get h i (by simpa using hi)
  rw [List.getElem_map] at hr
  obtain ⟨A1, c1, rfl, h1⟩ := GIr.rd hr
  exact ⟨b, off, A1, c1, e, hb, hc 0 _ rfl, hc 1 _ rfl, hc 2 _ rfl, h1⟩

theorem GIr.At.keep {w w' : World} {S S' : Nat → Prop} {t : GIr} {A1 : Option Addr} {c1 : Nat} (h : GIr.At w S A1 c1 t) (hk : ∀ b, S b → S' b ∧ w'.heap[b]? = w.heap[b]?) : GIr.At w' S' A1 c1 t := by
  unfold GIr.At at h ⊢
  obtain ⟨h0, h1, h2⟩ := h
  exact ⟨h0, h1, h2.keep hk⟩
theorem GIr.At.below {w w' : World} {B B' : Nat} {t : GIr} {A1 : Option Addr} {c1 : Nat} (h : GIr.At w (Lt B) A1 c1 t) (hb : Below B w w') (hB : B ≤ B') : GIr.At w' (Lt B') A1 c1 t :=
  h.keep (keep_below hb hB)

/-- the same, owned -/
def GIr.Ow (w : World) (S : Nat → Prop) (A1 : Option Addr) (c1 : Nat) (t : GIr) : Prop :=
  (Lit.int .i64 t.op).wf = true ∧ (Lit.int .i64 t.n).wf = true ∧ Osl w S 3 A1 c1 (t.kids.map GIr.toD)

theorem GIr.own_mk {w : World} {S : Nat → Prop} {t : GIr} {A1 : Option Addr} {c1 : Nat} (h : GIr.Ow w S A1 c1 t) : t.toD.own w S [.int .i64 t.op, .int .i64 t.n, .slice A1 t.kids.length c1] := by
  cases t with
  | mk op n kids =>
  simp only [GIr.toD, GIr.toDs_map]
  unfold GIr.Ow at h
  obtain ⟨h0, h1, h2⟩ := h
  rw [D.own_agg]
  exact D.ownF_plain (c1 := [_]) (c2 := [_, _]) (D.own_num.2 ⟨rfl, h0⟩) (D.ownF_plain (c1 := [_]) (c2 := [_]) (D.own_num.2 ⟨rfl, h1⟩) (D.ownF_last (D.own_sl.2 ⟨A1, c1, by simp [GIr.kids], h2⟩)))

theorem GIr.Ow.keep {w w' : World} {S S' : Nat → Prop} {t : GIr} {A1 : Option Addr} {c1 : Nat} (h : GIr.Ow w S A1 c1 t) (hk : ∀ b, S b → S' b ∧ w'.heap[b]? = w.heap[b]?) : GIr.Ow w' S' A1 c1 t := by
  unfold GIr.Ow at h ⊢
  obtain ⟨h0, h1, h2⟩ := h
  exact ⟨h0, h1, h2.keep hk⟩
theorem GIr.Ow.at {w : World} {S : Nat → Prop} {t : GIr} {A1 : Option Addr} {c1 : Nat} (h : GIr.Ow w S A1 c1 t) : GIr.At w S A1 c1 t := by
  unfold GIr.Ow at h
  unfold GIr.At
  obtain ⟨h0, h1, h2⟩ := h
  exact ⟨h0, h1, h2.sl⟩

end Go.Proofs.Ytdcchfpgpdekmaa
