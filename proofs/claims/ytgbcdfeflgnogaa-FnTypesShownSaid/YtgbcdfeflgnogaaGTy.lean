/- The data of the Go struct Ty: how it lies in memory (no program in sight). Conditions: none. -/
import Derived.Test.YtgbcdfeflgnogaaMem
namespace Go.Proofs.Ytgbcdfeflgnogaa
open Go.RowKit
set_option linter.unusedVariables false
set_option linter.unusedSimpArgs false

inductive GTy where
  | mk (op : Int) (n : Int) (s : ByteArray) (kids : List GTy)
def GTy.op : GTy → Int | .mk x _ _ _ => x
def GTy.n : GTy → Int | .mk _ x _ _ => x
def GTy.s : GTy → ByteArray | .mk _ _ x _ => x
def GTy.kids : GTy → List GTy | .mk _ _ _ x => x

mutual
def GTy.toD : GTy → D | .mk op n s kids => .agg [.num .i64 op, .num .i64 n, .str s, .sl 4 (GTy.toDs kids)]
def GTy.toDs : List GTy → List D | [] => [] | t :: r => t.toD :: GTy.toDs r
end

theorem GTy.toDs_map : ∀ l : List GTy, GTy.toDs l = l.map GTy.toD
  | [] => rfl
  | t :: r => by simp only [GTy.toDs, List.map_cons, GTy.toDs_map r]

mutual
/-- how much it holds, as the laws count it -/
def GTy.bulk : GTy → Nat | .mk _ _ s kids => s.size + GTy.bulks kids
def GTy.bulks : List GTy → Nat | [] => 0 | t :: r => 1 + t.bulk + GTy.bulks r
end
theorem GTy.bulks_eq : ∀ l : List GTy, GTy.bulks l = bulkL GTy.bulk l
  | [] => rfl
  | t :: r => by simp only [GTy.bulks, bulkL, GTy.bulks_eq r]

theorem GTy.bulk_eq (t : GTy) : t.bulk = t.s.size + bulkL GTy.bulk t.kids := by
  cases t; simp only [GTy.bulk, GTy.bulks_eq, GTy.op, GTy.n, GTy.s, GTy.kids]

/-- the facts of a struct that lies in memory: its cells are .int .i64 t.op, .int .i64 t.n, .string t.s, .slice A1 t.kids.length c1 -/
def GTy.At (w : World) (S : Nat → Prop) (A1 : Option Addr) (c1 : Nat) (t : GTy) : Prop :=
  (Lit.int .i64 t.op).wf = true ∧ (Lit.int .i64 t.n).wf = true ∧ t.s.size ≤ maxLen ∧ Sl w S 4 A1 c1 (t.kids.map GTy.toD)

theorem GTy.rd {w : World} {S : Nat → Prop} {t : GTy} {cs : List Value} (h : t.toD.rd w S cs) : ∃ A1 c1, cs = [.int .i64 t.op, .int .i64 t.n, .string t.s, .slice A1 t.kids.length c1] ∧ GTy.At w S A1 c1 t := by
  cases t with
  | mk op n s kids =>
  simp only [GTy.toD, GTy.toDs_map] at h
  rw [D.rd_agg] at h
  rw [D.rdF_cons] at h
  obtain ⟨x0, r0, rfl, k0, h⟩ := h
  obtain ⟨rfl, h0⟩ := D.rd_num.1 k0
  rw [D.rdF_cons] at h
  obtain ⟨x1, r1, rfl, k1, h⟩ := h
  obtain ⟨rfl, h1⟩ := D.rd_num.1 k1
  rw [D.rdF_cons] at h
  obtain ⟨x2, r2, rfl, k2, h⟩ := h
  obtain ⟨rfl, h2⟩ := D.rd_str.1 k2
  rw [D.rdF_cons] at h
  obtain ⟨x3, r3, rfl, k3, h⟩ := h
  obtain ⟨A1, c1, rfl, h3⟩ := D.rd_sl.1 k3
  obtain rfl := D.rdF_nil.1 h
  exact ⟨A1, c1, by simp [GTy.op, GTy.n, GTy.s, GTy.kids], h0, h1, h2, h3⟩

theorem GTy.rd_mk {w : World} {S : Nat → Prop} {t : GTy} {A1 : Option Addr} {c1 : Nat} (h : GTy.At w S A1 c1 t) : t.toD.rd w S [.int .i64 t.op, .int .i64 t.n, .string t.s, .slice A1 t.kids.length c1] := by
  cases t with
  | mk op n s kids =>
  simp only [GTy.toD, GTy.toDs_map]
  unfold GTy.At at h
  obtain ⟨h0, h1, h2, h3⟩ := h
  rw [D.rd_agg]
  exact D.rdF_cons.2 ⟨[_], [_, _, _], rfl, D.rd_num.2 ⟨rfl, h0⟩, D.rdF_cons.2 ⟨[_], [_, _], rfl, D.rd_num.2 ⟨rfl, h1⟩, D.rdF_cons.2 ⟨[_], [_], rfl, D.rd_str.2 ⟨rfl, h2⟩, D.rdF_cons.2 ⟨[_], [], rfl, D.rd_sl.2 ⟨A1, c1, by simp [GTy.kids], h3⟩, D.rdF_nil.2 rfl⟩⟩⟩⟩

theorem GTy.elem {w : World} {S : Nat → Prop} {A : Option Addr} {c : Nat} {l : List GTy} (h : Sl w S 4 A c (l.map GTy.toD)) (i : Nat) (hi : i < l.length) :
    ∃ b off A1 c1, A = some ⟨b, off, none⟩ ∧ S b ∧ w.cell? ⟨b, off + i * 4, none⟩ = some (.int .i64 l[i].op) ∧ w.cell? ⟨b, off + i * 4 + 1, none⟩ = some (.int .i64 l[i].n) ∧ w.cell? ⟨b, off + i * 4 + 2, none⟩ = some (.string l[i].s) ∧ w.cell? ⟨b, off + i * 4 + 3, none⟩ = some (.slice A1 l[i].kids.length c1) ∧ GTy.At w S A1 c1 l[i] := by
  obtain ⟨b, off, cs, e, hb, hl, hc, hr⟩ := Sl.get h i (by simpa using hi)
  rw [List.getElem_map] at hr
  obtain ⟨A1, c1, rfl, h1⟩ := GTy.rd hr
  exact ⟨b, off, A1, c1, e, hb, hc 0 _ rfl, hc 1 _ rfl, hc 2 _ rfl, hc 3 _ rfl, h1⟩

theorem GTy.At.keep {w w' : World} {S S' : Nat → Prop} {t : GTy} {A1 : Option Addr} {c1 : Nat} (h : GTy.At w S A1 c1 t) (hk : ∀ b, S b → S' b ∧ w'.heap[b]? = w.heap[b]?) : GTy.At w' S' A1 c1 t := by
  unfold GTy.At at h ⊢
  obtain ⟨h0, h1, h2, h3⟩ := h
  exact ⟨h0, h1, h2, h3.keep hk⟩
theorem GTy.At.below {w w' : World} {B B' : Nat} {t : GTy} {A1 : Option Addr} {c1 : Nat} (h : GTy.At w (Lt B) A1 c1 t) (hb : Below B w w') (hB : B ≤ B') : GTy.At w' (Lt B') A1 c1 t :=
  h.keep (keep_below hb hB)

/-- the same, owned -/
def GTy.Ow (w : World) (S : Nat → Prop) (A1 : Option Addr) (c1 : Nat) (t : GTy) : Prop :=
  (Lit.int .i64 t.op).wf = true ∧ (Lit.int .i64 t.n).wf = true ∧ t.s.size ≤ maxLen ∧ Osl w S 4 A1 c1 (t.kids.map GTy.toD)

theorem GTy.own_mk {w : World} {S : Nat → Prop} {t : GTy} {A1 : Option Addr} {c1 : Nat} (h : GTy.Ow w S A1 c1 t) : t.toD.own w S [.int .i64 t.op, .int .i64 t.n, .string t.s, .slice A1 t.kids.length c1] := by
  cases t with
  | mk op n s kids =>
  simp only [GTy.toD, GTy.toDs_map]
  unfold GTy.Ow at h
  obtain ⟨h0, h1, h2, h3⟩ := h
  rw [D.own_agg]
  exact D.ownF_plain (c1 := [_]) (c2 := [_, _, _]) (D.own_num.2 ⟨rfl, h0⟩) (D.ownF_plain (c1 := [_]) (c2 := [_, _]) (D.own_num.2 ⟨rfl, h1⟩) (D.ownF_plain (c1 := [_]) (c2 := [_]) (D.own_str.2 ⟨rfl, h2⟩) (D.ownF_last (D.own_sl.2 ⟨A1, c1, by simp [GTy.kids], h3⟩))))

theorem GTy.Ow.keep {w w' : World} {S S' : Nat → Prop} {t : GTy} {A1 : Option Addr} {c1 : Nat} (h : GTy.Ow w S A1 c1 t) (hk : ∀ b, S b → S' b ∧ w'.heap[b]? = w.heap[b]?) : GTy.Ow w' S' A1 c1 t := by
  unfold GTy.Ow at h ⊢
  obtain ⟨h0, h1, h2, h3⟩ := h
  exact ⟨h0, h1, h2, h3.keep hk⟩
theorem GTy.Ow.at {w : World} {S : Nat → Prop} {t : GTy} {A1 : Option Addr} {c1 : Nat} (h : GTy.Ow w S A1 c1 t) : GTy.At w S A1 c1 t := by
  unfold GTy.Ow at h
  unfold GTy.At
  obtain ⟨h0, h1, h2, h3⟩ := h
  exact ⟨h0, h1, h2, h3.sl⟩

end Go.Proofs.Ytgbcdfeflgnogaa
