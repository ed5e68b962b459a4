/- Texts of the claim LExactTrees in one: GTy GCon GData Pw ConTag FuncP FCon ConOf Focus MarkText Int RowI Vars Has CoverP TreesP TrA. Conditions: none but bounds on sizes. -/
import Derived.Test.YtnpkmebnmklcfaaZLExactTrees0
import Derived.WalkKit
import Derived.Test.YtnpkmebnmklcfaaRows
import Derived.Lib.Hide
import Derived.BigQuiet
import Derived.Lib.AppendZerosOnto
/- The data of the Go struct Ty: how it lies in memory (no program in sight). Conditions: none. -/
namespace Go.Proofs.Ytnpkmebnmklcfaa
open Go.RowKit
set_option linter.unusedVariables false
set_option linter.unusedSimpArgs false

inductive GTy where
  | mk (op : Int) (n : Int) (s : ByteArray) (kids : List GTy)
def GTy.op : GTy → Int | .mk x _ _ _ => x
def GTy.n : GTy → Int | .mk _ x _ _ => x
def GTy.s : GTy → ByteArray | .mk _ _ x _ => x
def GTy.kids : GTy → List GTy | .mk _ _ _ x => x

mutual
def GTy.toD : GTy → D | .mk op n s kids => .agg [.num .i64 op, .num .i64 n, .str s, .sl 4 (GTy.toDs kids)]
def GTy.toDs : List GTy → List D | [] => [] | t :: r => t.toD :: GTy.toDs r
end

theorem GTy.toDs_map : ∀ l : List GTy, GTy.toDs l = l.map GTy.toD
  | [] => rfl
  | t :: r => by simp only [GTy.toDs, List.map_cons, GTy.toDs_map r]

mutual
/-- how much it holds, as the laws count it -/
def GTy.bulk : GTy → Nat | .mk _ _ s kids => s.size + GTy.bulks kids
def GTy.bulks : List GTy → Nat | [] => 0 | t :: r => 1 + t.bulk + GTy.bulks r
end
theorem GTy.bulks_eq : ∀ l : List GTy, GTy.bulks l = bulkL GTy.bulk l
  | [] => rfl
  | t :: r => by simp only [GTy.bulks, bulkL, GTy.bulks_eq r]

theorem GTy.bulk_eq (t : GTy) : t.bulk = t.s.size + bulkL GTy.bulk t.kids := by
  cases t; simp only [GTy.bulk, GTy.bulks_eq, GTy.op, GTy.n, GTy.s, GTy.kids]

/-- the facts of a struct that lies in memory: its cells are .int .i64 t.op, .int .i64 t.n, .string t.s, .slice A1 t.kids.length c1 -/
def GTy.At (w : World) (S : Nat → Prop) (A1 : Option Addr) (c1 : Nat) (t : GTy) : Prop :=
  (Lit.int .i64 t.op).wf = true ∧ (Lit.int .i64 t.n).wf = true ∧ t.s.size ≤ maxLen ∧ Sl w S 4 A1 c1 (t.kids.map GTy.toD)

theorem GTy.rd {w : World} {S : Nat → Prop} {t : GTy} {cs : List Value} (h : t.toD.rd w S cs) : ∃ A1 c1, cs = [.int .i64 t.op, .int .i64 t.n, .string t.s, .slice A1 t.kids.length c1] ∧ GTy.At w S A1 c1 t := by
  cases t with
  | mk op n s kids =>
  simp only [GTy.toD, GTy.toDs_map] at h
  rw [D.rd_agg] at h
  rw [D.rdF_cons] at h
  obtain ⟨x0, r0, rfl, k0, h⟩ := h
  obtain ⟨rfl, h0⟩ := D.rd_num.1 k0
  rw [D.rdF_cons] at h
  obtain ⟨x1, r1, rfl, k1, h⟩ := h
  obtain ⟨rfl, h1⟩ := D.rd_num.1 k1
  rw [D.rdF_cons] at h
  obtain ⟨x2, r2, rfl, k2, h⟩ := h
  obtain ⟨rfl, h2⟩ := D.rd_str.1 k2
  rw [D.rdF_cons] at h
  obtain ⟨x3, r3, rfl, k3, h⟩ := h
  obtain ⟨A1, c1, rfl, h3⟩ := D.rd_sl.1 k3
  obtain rfl := D.rdF_nil.1 h
  exact ⟨A1, c1, by simp [GTy.op, GTy.n, GTy.s, GTy.kids], h0, h1, h2, h3⟩

theorem GTy.rd_mk {w : World} {S : Nat → Prop} {t : GTy} {A1 : Option Addr} {c1 : Nat} (h : GTy.At w S A1 c1 t) : t.toD.rd w S [.int .i64 t.op, .int .i64 t.n, .string t.s, .slice A1 t.kids.length c1] := by
  cases t with
  | mk op n s kids =>
  simp only [GTy.toD, GTy.toDs_map]
  unfold GTy.At at h
  obtain ⟨h0, h1, h2, h3⟩ := h
  rw [D.rd_agg]
  exact D.rdF_cons.2 ⟨[_], [_, _, _], rfl, D.rd_num.2 ⟨rfl, h0⟩, D.rdF_cons.2 ⟨[_], [_, _], rfl, D.rd_num.2 ⟨rfl, h1⟩, D.rdF_cons.2 ⟨[_], [_], rfl, D.rd_str.2 ⟨rfl, h2⟩, D.rdF_cons.2 ⟨[_], [], rfl, D.rd_sl.2 ⟨A1, c1, by simp [GTy.kids], h3⟩, D.rdF_nil.2 rfl⟩⟩⟩⟩

theorem GTy.elem {w : World} {S : Nat → Prop} {A : Option Addr} {c : Nat} {l : List GTy} (h : Sl w S 4 A c (l.map GTy.toD)) (i : Nat) (hi : i < l.length) :
    ∃ b off A1 c1, A = some ⟨b, off, none⟩ ∧ S b ∧ w.cell? ⟨b, off + i * 4, none⟩ = some (.int .i64 l[i].op) ∧ w.cell? ⟨b, off + i * 4 + 1, none⟩ = some (.int .i64 l[i].n) ∧ w.cell? ⟨b, off + i * 4 + 2, none⟩ = some (.string l[i].s) ∧ w.cell? ⟨b, off + i * 4 + 3, none⟩ = some (.slice A1 l[i].kids.length c1) ∧ GTy.At w S A1 c1 l[i] := by
  obtain ⟨b, off, cs, e, hb, hl, hc, hr⟩ := Sl.get h i (by simpa using hi)
  rw [List.getElem_map] at hr
  obtain ⟨A1, c1, rfl, h1⟩ := GTy.rd hr
  exact ⟨b, off, A1, c1, e, hb, hc 0 _ rfl, hc 1 _ rfl, hc 2 _ rfl, hc 3 _ rfl, h1⟩

theorem GTy.At.keep {w w' : World} {S S' : Nat → Prop} {t : GTy} {A1 : Option Addr} {c1 : Nat} (h : GTy.At w S A1 c1 t) (hk : ∀ b, S b → S' b ∧ w'.heap[b]? = w.heap[b]?) : GTy.At w' S' A1 c1 t := by
  unfold GTy.At at h ⊢
  obtain ⟨h0, h1, h2, h3⟩ := h
  exact ⟨h0, h1, h2, h3.keep hk⟩
theorem GTy.At.below {w w' : World} {B B' : Nat} {t : GTy} {A1 : Option Addr} {c1 : Nat} (h : GTy.At w (Lt B) A1 c1 t) (hb : Below B w w') (hB : B ≤ B') : GTy.At w' (Lt B') A1 c1 t :=
  h.keep (keep_below hb hB)

/-- the same, owned -/
def GTy.Ow (w : World) (S : Nat → Prop) (A1 : Option Addr) (c1 : Nat) (t : GTy) : Prop :=
  (Lit.int .i64 t.op).wf = true ∧ (Lit.int .i64 t.n).wf = true ∧ t.s.size ≤ maxLen ∧ Osl w S 4 A1 c1 (t.kids.map GTy.toD)

theorem GTy.own_mk {w : World} {S : Nat → Prop} {t : GTy} {A1 : Option Addr} {c1 : Nat} (h : GTy.Ow w S A1 c1 t) : t.toD.own w S [.int .i64 t.op, .int .i64 t.n, .string t.s, .slice A1 t.kids.length c1] := by
  cases t with
  | mk op n s kids =>
  simp only [GTy.toD, GTy.toDs_map]
  unfold GTy.Ow at h
  obtain ⟨h0, h1, h2, h3⟩ := h
  rw [D.own_agg]
  exact D.ownF_plain (c1 := [_]) (c2 := [_, _, _]) (D.own_num.2 ⟨rfl, h0⟩) (D.ownF_plain (c1 := [_]) (c2 := [_, _]) (D.own_num.2 ⟨rfl, h1⟩) (D.ownF_plain (c1 := [_]) (c2 := [_]) (D.own_str.2 ⟨rfl, h2⟩) (D.ownF_last (D.own_sl.2 ⟨A1, c1, by simp [GTy.kids], h3⟩))))

theorem GTy.Ow.keep {w w' : World} {S S' : Nat → Prop} {t : GTy} {A1 : Option Addr} {c1 : Nat} (h : GTy.Ow w S A1 c1 t) (hk : ∀ b, S b → S' b ∧ w'.heap[b]? = w.heap[b]?) : GTy.Ow w' S' A1 c1 t := by
  unfold GTy.Ow at h ⊢
  obtain ⟨h0, h1, h2, h3⟩ := h
  exact ⟨h0, h1, h2, h3.keep hk⟩
theorem GTy.Ow.at {w : World} {S : Nat → Prop} {t : GTy} {A1 : Option Addr} {c1 : Nat} (h : GTy.Ow w S A1 c1 t) : GTy.At w S A1 c1 t := by
  unfold GTy.Ow at h
  unfold GTy.At
  obtain ⟨h0, h1, h2, h3⟩ := h
  exact ⟨h0, h1, h2, h3.sl⟩

end Go.Proofs.Ytnpkmebnmklcfaa

/- The data of the Go struct Con: how it lies in memory (no program in sight). Conditions: none. -/
namespace Go.Proofs.Ytnpkmebnmklcfaa
open Go.RowKit
set_option linter.unusedVariables false
set_option linter.unusedSimpArgs false

structure GCon where
  name : ByteArray
  args : List GTy

def GCon.toD (x : GCon) : D := .agg [.str x.name, .sl 4 (x.args.map GTy.toD)]

/-- how much it holds, as the laws count it -/
def GCon.bulk (x : GCon) : Nat := x.name.size + bulkL GTy.bulk x.args

theorem GCon.bulk_eq (t : GCon) : t.bulk = t.name.size + bulkL GTy.bulk t.args := rfl

/-- the facts of a struct that lies in memory: its cells are .string t.name, .slice A1 t.args.length c1 -/
def GCon.At (w : World) (S : Nat → Prop) (A1 : Option Addr) (c1 : Nat) (t : GCon) : Prop :=
  t.name.size ≤ maxLen ∧ Sl w S 4 A1 c1 (t.args.map GTy.toD)

theorem GCon.rd {w : World} {S : Nat → Prop} {t : GCon} {cs : List Value} (h : t.toD.rd w S cs) : ∃ A1 c1, cs = [.string t.name, .slice A1 t.args.length c1] ∧ GCon.At w S A1 c1 t := by
  unfold GCon.toD at h
  rw [D.rd_agg] at h
  rw [D.rdF_cons] at h
  obtain ⟨x0, r0, rfl, k0, h⟩ := h
  obtain ⟨rfl, h0⟩ := D.rd_str.1 k0
  rw [D.rdF_cons] at h
  obtain ⟨x1, r1, rfl, k1, h⟩ := h
  obtain ⟨A1, c1, rfl, h1⟩ := D.rd_sl.1 k1
  obtain rfl := D.rdF_nil.1 h
  exact ⟨A1, c1, by simp [List.length_map], h0, h1⟩

theorem GCon.rd_mk {w : World} {S : Nat → Prop} {t : GCon} {A1 : Option Addr} {c1 : Nat} (h : GCon.At w S A1 c1 t) : t.toD.rd w S [.string t.name, .slice A1 t.args.length c1] := by
  unfold GCon.toD
  unfold GCon.At at h
  obtain ⟨h0, h1⟩ := h
  rw [D.rd_agg]
  exact D.rdF_cons.2 ⟨[_], [_], rfl, D.rd_str.2 ⟨rfl, h0⟩, D.rdF_cons.2 ⟨[_], [], rfl, D.rd_sl.2 ⟨A1, c1, by simp [List.length_map], h1⟩, D.rdF_nil.2 rfl⟩⟩

theorem GCon.elem {w : World} {S : Nat → Prop} {A : Option Addr} {c : Nat} {l : List GCon} (h : Sl w S 2 A c (l.map GCon.toD)) (i : Nat) (hi : i < l.length) :
    ∃ b off A1 c1, A = some ⟨b, off, none⟩ ∧ S b ∧ w.cell? ⟨b, off + i * 2, none⟩ = some (.string l[i].name) ∧ w.cell? ⟨b, off + i * 2 + 1, none⟩ = some (.slice A1 l[i].args.length c1) ∧ GCon.At w S A1 c1 l[i] := by
  obtain ⟨b, off, cs, e, hb, hl, hc, hr⟩ := Sl.get h i (by simpa using hi)
  rw [List.getElem_map] at hr
  obtain ⟨A1, c1, rfl, h1⟩ := GCon.rd hr
  exact ⟨b, off, A1, c1, e, hb, hc 0 _ rfl, hc 1 _ rfl, h1⟩

theorem GCon.At.keep {w w' : World} {S S' : Nat → Prop} {t : GCon} {A1 : Option Addr} {c1 : Nat} (h : GCon.At w S A1 c1 t) (hk : ∀ b, S b → S' b ∧ w'.heap[b]? = w.heap[b]?) : GCon.At w' S' A1 c1 t := by
  unfold GCon.At at h ⊢
  obtain ⟨h0, h1⟩ := h
  exact ⟨h0, h1.keep hk⟩
theorem GCon.At.below {w w' : World} {B B' : Nat} {t : GCon} {A1 : Option Addr} {c1 : Nat} (h : GCon.At w (Lt B) A1 c1 t) (hb : Below B w w') (hB : B ≤ B') : GCon.At w' (Lt B') A1 c1 t :=
  h.keep (keep_below hb hB)

/-- the same, owned -/
def GCon.Ow (w : World) (S : Nat → Prop) (A1 : Option Addr) (c1 : Nat) (t : GCon) : Prop :=
  t.name.size ≤ maxLen ∧ Osl w S 4 A1 c1 (t.args.map GTy.toD)

theorem GCon.own_mk {w : World} {S : Nat → Prop} {t : GCon} {A1 : Option Addr} {c1 : Nat} (h : GCon.Ow w S A1 c1 t) : t.toD.own w S [.string t.name, .slice A1 t.args.length c1] := by
  unfold GCon.toD
  unfold GCon.Ow at h
  obtain ⟨h0, h1⟩ := h
  rw [D.own_agg]
  exact D.ownF_plain (c1 := [_]) (c2 := [_]) (D.own_str.2 ⟨rfl, h0⟩) (D.ownF_last (D.own_sl.2 ⟨A1, c1, by simp [List.length_map], h1⟩))

theorem GCon.Ow.keep {w w' : World} {S S' : Nat → Prop} {t : GCon} {A1 : Option Addr} {c1 : Nat} (h : GCon.Ow w S A1 c1 t) (hk : ∀ b, S b → S' b ∧ w'.heap[b]? = w.heap[b]?) : GCon.Ow w' S' A1 c1 t := by
  unfold GCon.Ow at h ⊢
  obtain ⟨h0, h1⟩ := h
  exact ⟨h0, h1.keep hk⟩
theorem GCon.Ow.at {w : World} {S : Nat → Prop} {t : GCon} {A1 : Option Addr} {c1 : Nat} (h : GCon.Ow w S A1 c1 t) : GCon.At w S A1 c1 t := by
  unfold GCon.Ow at h
  unfold GCon.At
  obtain ⟨h0, h1⟩ := h
  exact ⟨h0, h1.sl⟩

end Go.Proofs.Ytnpkmebnmklcfaa

/- The data of the Go struct Data: how it lies in memory (no program in sight). Conditions: none. -/
namespace Go.Proofs.Ytnpkmebnmklcfaa
open Go.RowKit
set_option linter.unusedVariables false
set_option linter.unusedSimpArgs false

structure GData where
  name : ByteArray
  vars : Int
  cons : List GCon

def GData.toD (x : GData) : D := .agg [.str x.name, .num .i64 x.vars, .sl 2 (x.cons.map GCon.toD)]

/-- how much it holds, as the laws count it -/
def GData.bulk (x : GData) : Nat := x.name.size + bulkL GCon.bulk x.cons

theorem GData.bulk_eq (t : GData) : t.bulk = t.name.size + bulkL GCon.bulk t.cons := rfl

/-- the facts of a struct that lies in memory: its cells are .string t.name, .int .i64 t.vars, .slice A1 t.cons.length c1 -/
def GData.At (w : World) (S : Nat → Prop) (A1 : Option Addr) (c1 : Nat) (t : GData) : Prop :=
  t.name.size ≤ maxLen ∧ (Lit.int .i64 t.vars).wf = true ∧ Sl w S 2 A1 c1 (t.cons.map GCon.toD)

theorem GData.rd {w : World} {S : Nat → Prop} {t : GData} {cs : List Value} (h : t.toD.rd w S cs) : ∃ A1 c1, cs = [.string t.name, .int .i64 t.vars, .slice A1 t.cons.length c1] ∧ GData.At w S A1 c1 t := by
  unfold GData.toD at h
  rw [D.rd_agg] at h
  rw [D.rdF_cons] at h
  obtain ⟨x0, r0, rfl, k0, h⟩ := h
  obtain ⟨rfl, h0⟩ := D.rd_str.1 k0
  rw [D.rdF_cons] at h
  obtain ⟨x1, r1, rfl, k1, h⟩ := h
  obtain ⟨rfl, h1⟩ := D.rd_num.1 k1
  rw [D.rdF_cons] at h
  obtain ⟨x2, r2, rfl, k2, h⟩ := h
  obtain ⟨A1, c1, rfl, h2⟩ := D.rd_sl.1 k2
  obtain rfl := D.rdF_nil.1 h
  exact ⟨A1, c1, by simp [List.length_map], h0, h1, h2⟩

theorem GData.rd_mk {w : World} {S : Nat → Prop} {t : GData} {A1 : Option Addr} {c1 : Nat} (h : GData.At w S A1 c1 t) : t.toD.rd w S [.string t.name, .int .i64 t.vars, .slice A1 t.cons.length c1] := by
  unfold GData.toD
  unfold GData.At at h
  obtain ⟨h0, h1, h2⟩ := h
  rw [D.rd_agg]
  exact D.rdF_cons.2 ⟨[_], [_, _], rfl, D.rd_str.2 ⟨rfl, h0⟩, D.rdF_cons.2 ⟨[_], [_], rfl, D.rd_num.2 ⟨rfl, h1⟩, D.rdF_cons.2 ⟨[_], [], rfl, D.rd_sl.2 ⟨A1, c1, by simp [List.length_map], h2⟩, D.rdF_nil.2 rfl⟩⟩⟩

theorem GData.elem {w : World} {S : Nat → Prop} {A : Option Addr} {c : Nat} {l : List GData} (h : Sl w S 3 A c (l.map GData.toD)) (i : Nat) (hi : i < l.length) :
    ∃ b off A1 c1, A = some ⟨b, off, none⟩ ∧ S b ∧ w.cell? ⟨b, off + i * 3, none⟩ = some (.string l[i].name) ∧ w.cell? ⟨b, off + i * 3 + 1, none⟩ = some (.int .i64 l[i].vars) ∧ w.cell? ⟨b, off + i * 3 + 2, none⟩ = some (.slice A1 l[i].cons.length c1) ∧ GData.At w S A1 c1 l[i] := by
  obtain ⟨b, off, cs, e, hb, hl, hc, hr⟩ := Sl.get h i (by simpa using hi)
  rw [List.getElem_map] at hr
  obtain ⟨A1, c1, rfl, h1⟩ := GData.rd hr
  exact ⟨b, off, A1, c1, e, hb, hc 0 _ rfl, hc 1 _ rfl, hc 2 _ rfl, h1⟩

theorem GData.At.keep {w w' : World} {S S' : Nat → Prop} {t : GData} {A1 : Option Addr} {c1 : Nat} (h : GData.At w S A1 c1 t) (hk : ∀ b, S b → S' b ∧ w'.heap[b]? = w.heap[b]?) : GData.At w' S' A1 c1 t := by
  unfold GData.At at h ⊢
  obtain ⟨h0, h1, h2⟩ := h
  exact ⟨h0, h1, h2.keep hk⟩
theorem GData.At.below {w w' : World} {B B' : Nat} {t : GData} {A1 : Option Addr} {c1 : Nat} (h : GData.At w (Lt B) A1 c1 t) (hb : Below B w w') (hB : B ≤ B') : GData.At w' (Lt B') A1 c1 t :=
  h.keep (keep_below hb hB)

/-- the same, owned -/
def GData.Ow (w : World) (S : Nat → Prop) (A1 : Option Addr) (c1 : Nat) (t : GData) : Prop :=
  t.name.size ≤ maxLen ∧ (Lit.int .i64 t.vars).wf = true ∧ Osl w S 2 A1 c1 (t.cons.map GCon.toD)

theorem GData.own_mk {w : World} {S : Nat → Prop} {t : GData} {A1 : Option Addr} {c1 : Nat} (h : GData.Ow w S A1 c1 t) : t.toD.own w S [.string t.name, .int .i64 t.vars, .slice A1 t.cons.length c1] := by
  unfold GData.toD
  unfold GData.Ow at h
  obtain ⟨h0, h1, h2⟩ := h
  rw [D.own_agg]
  exact D.ownF_plain (c1 := [_]) (c2 := [_, _]) (D.own_str.2 ⟨rfl, h0⟩) (D.ownF_plain (c1 := [_]) (c2 := [_]) (D.own_num.2 ⟨rfl, h1⟩) (D.ownF_last (D.own_sl.2 ⟨A1, c1, by simp [List.length_map], h2⟩)))

theorem GData.Ow.keep {w w' : World} {S S' : Nat → Prop} {t : GData} {A1 : Option Addr} {c1 : Nat} (h : GData.Ow w S A1 c1 t) (hk : ∀ b, S b → S' b ∧ w'.heap[b]? = w.heap[b]?) : GData.Ow w' S' A1 c1 t := by
  unfold GData.Ow at h ⊢
  obtain ⟨h0, h1, h2⟩ := h
  exact ⟨h0, h1, h2.keep hk⟩
theorem GData.Ow.at {w : World} {S : Nat → Prop} {t : GData} {A1 : Option Addr} {c1 : Nat} (h : GData.Ow w S A1 c1 t) : GData.At w S A1 c1 t := by
  unfold GData.Ow at h
  unfold GData.At
  obtain ⟨h0, h1, h2⟩ := h
  exact ⟨h0, h1, h2.sl⟩

end Go.Proofs.Ytnpkmebnmklcfaa

/- Plain facts on numbers and their decimal digits (no program in sight). Conditions: none. -/
namespace Go.Proofs.Ytnpkmebnmklcfaa
open Go.RowKit

/-- what Round gives -/
def roundI (n : Int) : Int := if 1073741823 < n % 2147483648 then n % 2147483648 - 2147483648 else n % 2147483648

theorem i64_and31 (n : Int) : bits .and .i64 n 2147483647 = n % 2147483648 := by
  have h127 : (BitVec.ofInt 64 2147483647).toNat = 2 ^ 31 - 1 := by decide
  have key : (BitVec.ofInt 64 n &&& BitVec.ofInt 64 2147483647).toNat = (n % ((2 ^ 64 : Nat) : Int)).toNat % 2 ^ 31 := by
    rw [BitVec.toNat_and, BitVec.toNat_ofInt, h127, Nat.and_two_pow_sub_one_eq_mod]
  show IntKind.i64.wrap ((BitVec.ofInt 64 n &&& BitVec.ofInt 64 2147483647).toNat : Nat) = n % 2147483648
  rw [key, IntKind.wrap_i64]
  omega

theorem tmod31 (n : Int) : (0 ≤ n → n.tmod 2147483648 = n % 2147483648) ∧ (n < 0 → n.tmod 2147483648 = - ((-n) % 2147483648)) := by
  constructor
  · intro h; exact Int.tmod_eq_emod_of_nonneg h
  · intro h
    have e : n.tmod 2147483648 = -((-n).tmod 2147483648) := by rw [Int.neg_tmod]; omega
    rw [e, Int.tmod_eq_emod_of_nonneg (by omega)]

theorem tmod10 (n : Int) : (0 ≤ n → n.tmod 10 = n % 10) ∧ (n < 0 → n.tmod 10 = - ((-n) % 10)) := by
  constructor
  · intro h; exact Int.tmod_eq_emod_of_nonneg h
  · intro h
    have e : n.tmod 10 = -((-n).tmod 10) := by rw [Int.neg_tmod]; omega
    rw [e, Int.tmod_eq_emod_of_nonneg (by omega)]

theorem tdiv10 (n : Int) : (0 ≤ n → n.tdiv 10 = n / 10) ∧ (n < 0 → n.tdiv 10 = - ((-n) / 10)) := by
  constructor
  · intro h; exact Int.tdiv_eq_ediv_of_nonneg h
  · intro h
    have e : n.tdiv 10 = -((-n).tdiv 10) := by rw [Int.neg_tdiv]; omega
    rw [e, Int.tdiv_eq_ediv_of_nonneg (by omega)]

/-- one byte as a string -/
def one (x : Int) : ByteArray := ⟨#[UInt8.ofNat x.toNat]⟩

/-- the decimal digits of a number that is not below 0 -/
def digU (n : Nat) : ByteArray := if h : n < 10 then one (48 + n) else digU (n / 10) ++ one (48 + (n % 10 : Nat))
termination_by n
decreasing_by omega

theorem digU_lt {n : Nat} (h : n < 10) : digU n = one (48 + n) := by rw [digU, dif_pos h]
theorem digU_ge {n : Nat} (h : 10 ≤ n) : digU n = digU (n / 10) ++ one (48 + (n % 10 : Nat)) := by rw [digU, dif_neg (by omega)]

/-- what Digits gives -/
def digI (n : Int) : ByteArray := if n < 0 then ⟨#[45]⟩ ++ digU (-n).toNat else digU n.toNat

@[go_sem] theorem one_size (x : Int) : (one x).size = 1 := rfl

theorem digU_size (k : Nat) : ∀ n : Nat, n < 10 ^ (k + 1) → (digU n).size ≤ k + 1 := by
  induction k with
  | zero => intro n h; rw [digU_lt (by omega)]; simp [one_size]
  | succ k ih =>
    intro n h
    by_cases h10 : n < 10
    · rw [digU_lt h10]; simp [one_size]
    · rw [digU_ge (by omega), ByteArray.size_append', one_size]
      have := ih (n / 10) (by rw [Nat.pow_succ] at h; omega)
      omega

theorem digU_size19 (n : Nat) (h : n ≤ 9223372036854775808) : (digU n).size ≤ 19 := digU_size 18 n (by omega)

/-- the digits met from the right: those of a, then s -/
def digR (a : Nat) (s : ByteArray) : ByteArray := if a = 0 then s else digU a ++ s

theorem digR_zero (s : ByteArray) : digR 0 s = s := rfl
theorem digR_start {a : Nat} (h : a ≠ 0) : digR a ⟨#[]⟩ = digU a := by
  unfold digR; rw [if_neg h]; apply ByteArray.ext; simp [ByteArray.data_append]

theorem ba_assoc (a b c : ByteArray) : a ++ b ++ c = a ++ (b ++ c) := by
  apply ByteArray.ext; simp [ByteArray.data_append]

theorem digR_step {a : Nat} (h : a ≠ 0) (s : ByteArray) : digR (a / 10) (one (48 + (a % 10 : Nat)) ++ s) = digR a s := by
  unfold digR
  rw [if_neg h]
  by_cases h10 : a < 10
  · rw [if_pos (by omega), digU_lt h10, Nat.mod_eq_of_lt h10]
  · rw [if_neg (by omega), digU_ge (n := a) (by omega), ba_assoc]

theorem digR_size (a : Nat) (s : ByteArray) : s.size ≤ (digR a s).size := by
  unfold digR
  split
  · exact Nat.le_refl _
  · rw [ByteArray.size_append']; omega

theorem encode_one {r : Int} (h0 : 0 ≤ r) (h1 : r < 128) : Utf8.encode r = one r := by
  have hv : Utf8.valid r = true := by simp [Utf8.valid]; omega
  unfold Utf8.encode one
  simp only [hv, if_true]
  rw [if_pos (by omega)]

/-- a slice of one byte that was just made, as a string -/
theorem run_string_one {P : Program} (w : World) (src dst e : TypeId) (x : Int) (hs : P.underlying src = some (.slice e)) (he : P.underlying e = some (.int .u8)) (hd : P.underlying dst = some .string) :
    (convert src dst (.slice (some ⟨w.heap.size, 0, none⟩) 1 1)).run P (w.alloc (.cells #[.int .u8 x] e)) = .ok (.string (one x)) (w.alloc (.cells #[.int .u8 x] e)) := by
  rw [run_convert_bytes_string _ src dst e (some ⟨w.heap.size, 0, none⟩) 1 1 hs he hd]
  have hl := run_loadCells_list (P := P) (w.alloc (.cells #[.int .u8 x] e)) ⟨w.heap.size, 0, none⟩ [.int .u8 x] (fun j v hj => by
    match j with
    | 0 =>
      have hv : Value.int .u8 x = v := by simpa using hj
      rw [← hv]
      show (w.alloc _).cell? ⟨w.heap.size, 0 + 0, none⟩ = _
      rw [World.cell?_alloc_at _ _ _ _ rfl]; rfl
    | j + 1 => simp at hj)
  rw [run_bytesToString _ _ 1 1 [x] (by simpa using hl)]
  rfl

theorem run_string_one_at {P : Program} (w : World) (src dst e : TypeId) (x : Int) (hs : P.underlying src = some (.slice e)) (he : P.underlying e = some (.int .u8)) (hd : P.underlying dst = some .string) (g : Nat) (hg : g = w.heap.size) :
    (convert src dst (.slice (some ⟨g, 0, none⟩) 1 1)).run P (w.alloc (.cells #[.int .u8 x] e)) = .ok (.string (one x)) (w.alloc (.cells #[.int .u8 x] e)) := by
  subst hg; exact run_string_one w src dst e x hs he hd

theorem ret_int {k : IntKind} {a b : Int} (h : a = b) : Ending.returned (.int k a) = .returned (.int k b) := by rw [h]
theorem ret_str {a b : ByteArray} (h : a = b) : Ending.returned (.string a) = .returned (.string b) := by rw [h]
theorem ret_bool {a b : Bool} (h : a = b) : Ending.returned (.bool a) = .returned (.bool b) := by rw [h]
theorem wf64 {a : Int} (h : (Lit.int .i64 a).wf = true) : -9223372036854775808 ≤ a ∧ a ≤ 9223372036854775807 := by
  simpa [Lit.wf, IntKind.min, IntKind.max, IntKind.signed, IntKind.bits] using h

end Go.Proofs.Ytnpkmebnmklcfaa

/- ConTag. Conditions: what the list holds is at most 1048576. -/
namespace Go.Proofs.Ytnpkmebnmklcfaa
open Go.RowKit
set_option linter.unusedVariables false
set_option linter.unusedSimpArgs false
set_option maxHeartbeats 1000000

theorem name_ne {a b : ByteArray} (h : ¬ a = b) : (a.toList == b.toList) = false := by
  rw [beq_eq_false_iff_ne]; intro e; apply h; rw [ByteArray.toList_eq, ByteArray.toList_eq] at e; exact ByteArray.ext (Array.toList_inj.1 e)

/-- the tag of a con among the cons of one data; n: how many came before -/
def tagIn (s : ByteArray) : List GCon → Nat → Option Nat
  | [], _ => none
  | c :: r, n => if c.name = s then some n else tagIn s r (n + 1)
/-- the tag of a con -/
def tagOf (s : ByteArray) : List GData → Nat → Option Nat
  | [], _ => none
  | d :: r, n => match tagIn s d.cons n with
    | some x => some x
    | none => tagOf s r (n + d.cons.length)
def tagI : Option Nat → Int
  | some n => n
  | none => -1
/-- how many cons there are -/
def consN : List GData → Nat | [] => 0 | d :: r => d.cons.length + consN r

theorem tagIn_hit {s : ByteArray} {l : List GCon} {k n : Nat} (h : k < l.length) (e : l[k].name = s) : tagIn s (l.drop k) n = some n := by
  rw [List.drop_eq_getElem_cons h, tagIn, if_pos e]
theorem tagIn_miss {s : ByteArray} {l : List GCon} {k n : Nat} (h : k < l.length) (e : ¬ l[k].name = s) : tagIn s (l.drop k) n = tagIn s (l.drop (k + 1)) (n + 1) := by
  rw [List.drop_eq_getElem_cons h, tagIn, if_neg e]
theorem tagOf_hit {s : ByteArray} {l : List GData} {j n m : Nat} (h : j < l.length) (e : tagIn s l[j].cons n = some m) : tagOf s (l.drop j) n = some m := by
  rw [List.drop_eq_getElem_cons h, tagOf, e]
theorem tagOf_miss {s : ByteArray} {l : List GData} {j n : Nat} (h : j < l.length) (e : tagIn s l[j].cons n = none) : tagOf s (l.drop j) n = tagOf s (l.drop (j + 1)) (n + l[j].cons.length) := by
  rw [List.drop_eq_getElem_cons h, tagOf, e]
theorem consN_drop {l : List GData} {j : Nat} (h : j < l.length) : consN (l.drop j) = l[j].cons.length + consN (l.drop (j + 1)) := by
  rw [List.drop_eq_getElem_cons h, consN]
theorem consN_bulk (l : List GData) : consN l ≤ bulkL GData.bulk l := by
  induction l with
  | nil => simp [consN]
  | cons t r ih =>
    simp only [consN, bulkL]
    have := bulkL_len GCon.bulk t.cons
    have e := t.bulk_eq
    omega

end Go.Proofs.Ytnpkmebnmklcfaa

/- Plain facts on the first of a list that a predicate takes (no program in sight). Conditions: none. -/
namespace Go.Proofs.Ytnpkmebnmklcfaa

/-- the place of the first that p takes; -1: there is none -/
def idxI {α : Type} (p : α → Bool) : List α → Int
  | [] => -1
  | x :: r => if p x then 0 else if idxI p r < 0 then -1 else idxI p r + 1

/-- none of the first j is taken -/
def noneTo {α : Type} (p : α → Bool) (l : List α) (j : Nat) : Prop := ∀ i (h : i < l.length), i < j → p l[i] = false

theorem noneTo_zero {α : Type} (p : α → Bool) (l : List α) : noneTo p l 0 := fun i _ h => by omega

theorem noneTo_succ {α : Type} {p : α → Bool} {l : List α} {j : Nat} (h : noneTo p l j) (hj : j < l.length) (he : p l[j] = false) : noneTo p l (j + 1) := fun i hi hij => by
  rcases Nat.lt_or_ge i j with h1 | h1
  · exact h i hi h1
  · obtain rfl : i = j := by omega
    exact he

theorem noneTo_tail {α : Type} {p : α → Bool} {x : α} {r : List α} {j : Nat} (h : noneTo p (x :: r) (j + 1)) : noneTo p r j := fun i hi hij => by
  have := h (i + 1) (by simpa using hi) (by omega)
  simpa using this

theorem idxI_none {α : Type} {p : α → Bool} : ∀ {l : List α}, noneTo p l l.length → idxI p l = -1
  | [], _ => rfl
  | x :: r, h => by
    have h0 := h 0 (by simp) (by simp)
    simp only [List.getElem_cons_zero] at h0
    have h1 := idxI_none (p := p) (l := r) (noneTo_tail (j := r.length) (by simpa using h))
    simp [idxI, h0, h1]

theorem idxI_at {α : Type} {p : α → Bool} : ∀ {l : List α} {j : Nat}, noneTo p l j → (hj : j < l.length) → p l[j] = true → idxI p l = j
  | [], _, _, hj, _ => by simp at hj
  | x :: r, 0, _, _, he => by simp only [List.getElem_cons_zero] at he; simp [idxI, he]
  | x :: r, j + 1, h, hj, he => by
    have h0 := h 0 (by simp) (by omega)
    simp only [List.getElem_cons_zero] at h0
    have h1 := idxI_at (p := p) (l := r) (j := j) (noneTo_tail h) (by simpa using hj) (by simpa using he)
    simp only [idxI, h0, h1]
    have : ¬ ((j : Int) < 0) := by omega
    simp [this]

theorem idxI_any_false {α : Type} {p : α → Bool} : ∀ {l : List α}, l.any p = false → idxI p l = -1
  | [], _ => rfl
  | x :: r, h => by
    simp only [List.any_cons, Bool.or_eq_false_iff] at h
    simp [idxI, h.1, idxI_any_false h.2]

theorem idxI_any_true {α : Type} {p : α → Bool} : ∀ {l : List α}, l.any p = true → 0 ≤ idxI p l
  | [], h => by simp at h
  | x :: r, h => by
    simp only [List.any_cons, Bool.or_eq_true] at h
    unfold idxI
    split
    · omega
    · rename_i hx
      rcases h with h | h
      · exact absurd h hx
      · have := idxI_any_true h
        split <;> omega

/-- where there is one: its place, and it is taken -/
theorem idxI_spec {α : Type} {p : α → Bool} : ∀ {l : List α}, 0 ≤ idxI p l → ∃ j, ∃ h : j < l.length, idxI p l = j ∧ p l[j] = true ∧ noneTo p l j
  | [], h => by simp [idxI] at h
  | x :: r, h => by
    unfold idxI at h ⊢
    by_cases hx : p x = true
    · rw [if_pos hx] at h ⊢
      exact ⟨0, by simp, rfl, by simpa using hx, fun i _ h => by omega⟩
    · rw [if_neg hx] at h ⊢
      by_cases hr : idxI p r < 0
      · rw [if_pos hr] at h; omega
      · rw [if_neg hr] at h ⊢
        obtain ⟨j, hj, e, hp, hn⟩ := idxI_spec (p := p) (l := r) (by omega)
        refine ⟨j + 1, by simpa using hj, by rw [e]; simp, by simpa using hp, fun i hi hij => ?_⟩
        match i with
        | 0 => simpa using hx
        | i + 1 => have := hn i (by simpa using hi) (by omega); simpa using this

theorem idxI_lt {α : Type} {p : α → Bool} {l : List α} : idxI p l < l.length ∨ idxI p l = -1 := by
  by_cases h : 0 ≤ idxI p l
  · obtain ⟨j, hj, e, _⟩ := idxI_spec h; rw [e]; left; omega
  · right
    have : ∀ l : List α, -1 ≤ idxI p l := by
      intro l
      induction l with
      | nil => simp [idxI]
      | cons x r ih => unfold idxI; split; omega; split <;> omega
    have := this l; omega
end Go.Proofs.Ytnpkmebnmklcfaa

/- slices.IndexFunc and slices.ContainsFunc at Con, with whatever predicate that only makes memory of its own. Conditions: none. -/
namespace Go.Proofs.Ytnpkmebnmklcfaa
open Go.RowKit
set_option linter.unusedVariables false
set_option linter.unusedSimpArgs false
set_option maxHeartbeats 400000

theorem indexFuncCon (K : Nat) (hK : ∀ (args : Array Value) (w : World), (callFunc K args).run Try.prog w = .ok (.enter K args) w) (caps : Array Value) (p : GCon → Bool) (l : List GCon) (A : Option Addr) (c : Nat) (w : World) (hs : Sl w (Lt w.heap.size) 2 A c (l.map GCon.toD))
    (H : ∀ x, x ∈ l → ∀ (A1 : Option Addr) (c1 : Nat) (w2 : World), Below w.heap.size w w2 → GCon.At w2 (Lt w2.heap.size) A1 c1 x →
      Calls Try.prog K (#[.agg #[.string x.name, .slice A1 x.args.length c1]] ++ caps) w2 fun e w' => e = .returned (.bool (p x)) ∧ Below w2.heap.size w2 w') :
    Calls Try.prog 60 #[.slice A l.length c, .func (.func K) #[] caps] w fun e w' => e = .returned (.int .i64 (idxI p l)) ∧ Below w.heap.size w w' := by
  have hlen : l.length ≤ 9223372036854775807 := by simpa using hs.len
  have HH := Lib.hid H
  clear H
  go_enter Try.func60, Try.ntmps60
  go_wp2_with fail
  go_loopw [8] (fun i wr => ∃ j : Nat, j ≤ l.length ∧ i = .int .i64 j ∧ noneTo p l j ∧ Below w.heap.size w wr) (fun i _ => l.length - (intOf i).toNat)
  case atStart => exact ⟨0, by omega, by go_num, noneTo_zero p l, Below.refl _ _⟩
  case round =>
    obtain ⟨j, hj, rfl, hno, hbl⟩ := hrel
    have Hno := Lib.hid hno
    clear hno
    have hsz := hbl.size
    by_cases hlt : j < l.length
    · have htr := GCon.elem (hs.below hbl (Nat.le_refl _)) j hlt
      obtain ⟨b, off, A1, c1, rfl, hSb, g0, g1, hat⟩ := htr
      have hmem : l[j] ∈ l := List.getElem_mem hlt
      go_wp2_with fail
      refine (HH.out _ hmem _ _ _ hbl (hat.below (Below.refl _ _) hsz)).mono ?_
      rintro e w1 ⟨rfl, hb1⟩
      cases he : p l[j]
      · have hn := Lib.hid (noneTo_succ Hno.out hlt he)
        go_wp2_with fail
        go_roundw
        case rel => exact ⟨j + 1, by omega, by go_num, hn.out, hbl.trans (hb1.mono hsz)⟩
        case measure => simp [intOf]; omega
      · have hn := Lib.hid (idxI_at Hno.out hlt he)
        go_wp2_with fail
        go_ret
        exact ⟨ret_int hn.out.symm, hbl.trans (hb1.mono hsz)⟩
    · have hjl : j = l.length := by omega
      have Hj := Lib.hid hjl
      clear hjl
      go_wp2_with fail
      go_ret
      exact ⟨ret_int (idxI_none (by have := Hno.out; rw [Hj.out] at this; exact this)).symm, hbl⟩


end Go.Proofs.Ytnpkmebnmklcfaa

/- ConOf: the place of a con: which data, which of its cons. Conditions: none. -/
namespace Go.Proofs.Ytnpkmebnmklcfaa
open Go.RowKit
set_option linter.unusedVariables false
set_option linter.unusedSimpArgs false
set_option maxHeartbeats 1000000

theorem ret_ii {a b c d : Int} (h : a = b) (h2 : c = d) : Ending.returned (.tuple #[.int .i64 a, .int .i64 c]) = .returned (.tuple #[.int .i64 b, .int .i64 d]) := by rw [h, h2]

/-- which data, from number j on, and which con of it, bears a name -/
def conOf (s : ByteArray) : List GData → Nat → Option (Nat × Nat)
  | [], _ => none
  | d :: r, j => match tagIn s d.cons 0 with
    | some k => some (j, k)
    | none => conOf s r (j + 1)
def conI : Option (Nat × Nat) → Int × Int
  | some (j, k) => (j, k)
  | none => (-1, -1)
theorem conOf_hit {s : ByteArray} {l : List GData} {j n m : Nat} (h : j < l.length) (e : tagIn s l[j].cons 0 = some m) : conOf s (l.drop j) n = some (n, m) := by
  rw [List.drop_eq_getElem_cons h, conOf, e]
theorem conOf_miss {s : ByteArray} {l : List GData} {j n : Nat} (h : j < l.length) (e : tagIn s l[j].cons 0 = none) : conOf s (l.drop j) n = conOf s (l.drop (j + 1)) (n + 1) := by
  rw [List.drop_eq_getElem_cons h, conOf, e]

set_option maxRecDepth 20000 in
theorem specConOf (l : List GData) (A : Option Addr) (c : Nat) (s : ByteArray) (w : World) (hs : Sl w (Lt w.heap.size) 3 A c (l.map GData.toD)) :
    Calls Try.prog 40 #[.slice A l.length c, .string s] w fun e w' => e = .returned (.tuple #[.int .i64 (conI (conOf s l 0)).1, .int .i64 (conI (conOf s l 0)).2]) ∧ Below w.heap.size w w' := by
  have hlen : l.length ≤ 9223372036854775807 := by simpa using hs.len
  have S0 := Lib.hid hs
  clear hs
  go_enter Try.func40, Try.ntmps40
  go_wp2_with fail
  go_loopw [6] (fun i wr => ∃ (j : Nat), j ≤ l.length ∧ i = .int .i64 j ∧ Hid (conOf s l 0 = conOf s (l.drop j) j) ∧ Below w.heap.size w wr) (fun i _ => l.length - (intOf i).toNat)
  case atStart => exact ⟨0, by omega, by go_num, Lib.hid rfl, Below.refl _ _⟩
  case round =>
    obtain ⟨j, hj, rfl, HT, hbl⟩ := hrel
    have hsz := hbl.size
    by_cases hlt : j < l.length
    · obtain ⟨b, off, A1, c1, rfl, hSb, g0, g1, g2, hat⟩ := GData.elem (S0.out.below hbl (Nat.le_refl _)) j hlt
      have hcl : (l[j]).cons.length ≤ 9223372036854775807 := by simpa using hat.2.2.len
      clear hat
      go_wp2_with fail
      go_loopw [7] (fun i wr2 => ∃ (k : Nat), k ≤ (l[j]).cons.length ∧ i = .int .i64 k ∧ Hid (tagIn s (l[j]).cons 0 = tagIn s ((l[j]).cons.drop k) k) ∧ Below w.heap.size w wr2) (fun i _ => (l[j]).cons.length - (intOf i).toNat)
      case atStart => exact ⟨0, by omega, by go_num, Lib.hid rfl, hbl⟩
      case round =>
        obtain ⟨k, hk, rfl, HI, hbk⟩ := hrel
        obtain ⟨b', off', A1', c1', eA, hSb', q0, q1, q2, hat'⟩ := GData.elem (S0.out.below hbk (Nat.le_refl _)) j hlt
        obtain ⟨rfl, rfl⟩ : b = b' ∧ off = off' := by simpa using eA
        by_cases hkt : k < (l[j]).cons.length
        · obtain ⟨b2, off2, A2, c2, rfl, hSb2, p0, p1, hat2⟩ := GCon.elem hat'.2.2 k hkt
          by_cases he : ((l[j]).cons[k]).name = s
          · have HV := Lib.hid (show conOf s l 0 = some (j, k) from HT.out.trans (conOf_hit hlt (HI.out.trans (tagIn_hit hkt he))))
            have hbe : (((l[j]).cons[k]).name.toList == s.toList) = true := by rw [he]; simp
            clear he
            go_wp2_with fail
            go_ret2
            exact ⟨ret_ii (by rw [HV.out]; rfl) (by rw [HV.out]; rfl), hbk⟩
          · have HI2 := Lib.hid (HI.out.trans (tagIn_miss hkt he))
            have hbe : (((l[j]).cons[k]).name.toList == s.toList) = false := name_ne he
            clear he
            go_wp2_with fail
            go_roundw
            case rel => exact ⟨k + 1, by omega, by go_num, HI2, hbk⟩
            case measure => simp [intOf]; omega
        · have hkl : k = (l[j]).cons.length := by omega
          have HO := Lib.hid (conOf_miss (s := s) (n := j) hlt (HI.out.trans (by rw [hkl, List.drop_length]; rfl)))
          go_wp2_with fail
          go_roundw
          case rel => exact ⟨j + 1, by omega, by go_num, Lib.hid (HT.out.trans HO.out), hbk⟩
          case measure => simp [intOf]; omega
    · have hjl : j = l.length := by omega
      have Hj := Lib.hid hjl
      clear hjl
      go_wp2_with fail
      go_ret2
      exact ⟨ret_ii (by rw [HT.out, Hj.out, List.drop_length]; rfl) (by rw [HT.out, Hj.out, List.drop_length]; rfl), hbl⟩

/-- the con that bears a name, found by a predicate -/
theorem idxI_tagIn (s : ByteArray) (l : List GCon) (n : Nat) : (match tagIn s l n with | some k => idxI (fun x : GCon => x.name.toList == s.toList) l = (k : Int) - n ∧ n ≤ k | none => idxI (fun x : GCon => x.name.toList == s.toList) l = -1) := by
  induction l generalizing n with
  | nil => simp [tagIn, idxI]
  | cons x r ih =>
    by_cases h : x.name = s
    · have e : (x.name.toList == s.toList) = true := by rw [h]; simp
      simp [tagIn, idxI, h]
    · have e := name_ne h
      have := ih (n + 1)
      simp only [tagIn, idxI, if_neg h, e]
      cases hc : tagIn s r (n + 1) <;> rw [hc] at this <;> simp only at this ⊢
      · rw [this]; rfl
      · rw [if_neg (by simp), if_neg (by omega)]; omega

/-- the closure of ConOf: does a con bear the name -/
theorem implConOf1 (s : ByteArray) (b : Nat) (x : GCon) (A1 : Option Addr) (c1 : Nat) (w : World) (hc : w.cell? ⟨b, 0, none⟩ = some (.string s)) (hb : b < w.heap.size) :
    Calls Try.prog 61 #[.agg #[.string x.name, .slice A1 x.args.length c1], .pointer (some ⟨b, 0, none⟩)] w fun e w' => e = .returned (.bool (x.name.toList == s.toList)) ∧ Below w.heap.size w w' := by
  have E : Below w.heap.size w (w.alloc (.cells #[.string x.name, .slice A1 x.args.length c1] 96)) := (Below.refl _ _).alloc (Nat.le_refl _) _
  have hc2 := (E.cell (p := ⟨b, 0, none⟩) hb).trans hc
  go_enter Try.func61, Try.ntmps61
  go_wp2_with fail
  go_ret
  exact ⟨rfl, E⟩

set_option maxRecDepth 20000 in
theorem implConOf (l : List GData) (A : Option Addr) (c : Nat) (s : ByteArray) (w : World) (hs : Sl w (Lt w.heap.size) 3 A c (l.map GData.toD)) :
    Calls Try.prog 44 #[.slice A l.length c, .string s] w fun e w' => e = .returned (.tuple #[.int .i64 (conI (conOf s l 0)).1, .int .i64 (conI (conOf s l 0)).2]) ∧ Below w.heap.size w w' := by
  have hlen : l.length ≤ 9223372036854775807 := by simpa using hs.len
  have S0 := Lib.hid hs
  clear hs
  have E0 := Lib.hid (show Below w.heap.size w (w.alloc (.cells #[.string s] 9)) from (Below.refl _ _).alloc (Nat.le_refl _) _)
  have R0 := Lib.hid (Row.new w 9 #[.string s])
  go_enter Try.func44, Try.ntmps44
  go_wp2_with fail
  go_loopw [11] (fun i wr => ∃ (j : Nat), j ≤ l.length ∧ i = .int .i64 j ∧ Hid (conOf s l 0 = conOf s (l.drop j) j) ∧ Hid (Row wr w.heap.size 9 #[.string s]) ∧ Below w.heap.size w wr) (fun i _ => l.length - (intOf i).toNat)
  case atStart => exact ⟨0, by omega, by go_num, Lib.hid rfl, R0, E0.out⟩
  case round =>
    obtain ⟨j, hj, rfl, HT, HR, hbl⟩ := hrel
    have hsz := hbl.size
    by_cases hlt : j < l.length
    · obtain ⟨b, off, A1, c1, rfl, hSb, g0, g1, g2, hat⟩ := GData.elem (S0.out.below hbl (Nat.le_refl _)) j hlt
      have S1 := Lib.hid hat.2.2
      have hcl : (l[j]).cons.length ≤ 9223372036854775807 := by simpa using hat.2.2.len
      clear hat
      have HX := Lib.hid (idxI_tagIn s (l[j]).cons 0)
      go_wp2_with fail
      refine (indexFuncCon 61 (enters Try.func61 (by kernel_rfl) (by kernel_rfl)) #[.pointer (some ⟨w.heap.size, 0, none⟩)] (fun x => x.name.toList == s.toList) (l[j]).cons A1 c1 _ (S1.out.keep (fun k hk => ⟨Nat.lt_of_lt_of_le (Nat.lt_of_lt_of_le hk hsz) (by simp), Below.heap_alloc _ _ _ (Nat.lt_of_lt_of_le hk hsz)⟩))
        (fun x hx A2 c2 w2 hb2 hat2 => by
          have R2 := (HR.out.alloc _).below hb2 (HR.out.alloc _).lt
          exact implConOf1 s w.heap.size x A2 c2 w2 (R2.cell 0) R2.lt)).mono ?_
      rintro e w2 ⟨rfl, hb2⟩
      have B2 := Lib.hid ((hbl.alloc hsz _).trans (hb2.mono (hbl.alloc hsz _).size))
      have R3 := Lib.hid ((HR.out.alloc _).below hb2 (HR.out.alloc _).lt)
      clear hb2
      have hx := HX.out
      cases hct : tagIn s (l[j]).cons 0 with
      | some k =>
        rw [hct] at hx
        obtain ⟨hx1, _⟩ := hx
        have hx2 : idxI (fun x : GCon => x.name.toList == s.toList) (l[j]).cons = (k : Int) := by simpa using hx1
        have HV := Lib.hid (HT.out.trans (conOf_hit (n := j) hlt hct))
        rw [hx2]
        clear hx1 hx2 hct
        go_wp2_with fail
        go_ret2
        exact ⟨ret_ii (by rw [HV.out]; rfl) (by rw [HV.out]; rfl), B2.out⟩
      | none =>
        rw [hct] at hx
        have hx2 : idxI (fun x : GCon => x.name.toList == s.toList) (l[j]).cons = -1 := hx
        have HV := Lib.hid (HT.out.trans (conOf_miss (n := j) hlt hct))
        rw [hx2]
        clear hx hx2 hct
        go_wp2_with fail
        go_roundw
        case rel => exact ⟨j + 1, by omega, by go_num, HV, R3, B2.out⟩
        case measure => simp [intOf]; omega
    · have hjl : j = l.length := by omega
      have Hj := Lib.hid hjl
      clear hjl
      go_wp2_with fail
      go_ret2
      exact ⟨ret_ii (by rw [HT.out, Hj.out, List.drop_length]; rfl) (by rw [HT.out, Hj.out, List.drop_length]; rfl), hbl⟩

end Go.Proofs.Ytnpkmebnmklcfaa

/- One element of what is owned, written anew: the rest stays (no program in sight). Conditions: none. -/
namespace Go.Proofs.Ytnpkmebnmklcfaa
open Go.RowKit
set_option linter.unusedVariables false
set_option linter.unusedSimpArgs false

/-- a world behind writes to the blocks of S, and new blocks -/
structure Touch (S : Nat → Prop) (w w' : World) : Prop where
  os : w'.os = w.os
  tape : w'.tape = w.tape
  output : w'.output = w.output
  size : w.heap.size ≤ w'.heap.size
  block : ∀ b, b < w.heap.size → ¬ S b → w'.heap[b]? = w.heap[b]?
  frozen : ∀ b, S b → ∀ o, w.frozen? ⟨b, o, none⟩ = false → w'.frozen? ⟨b, o, none⟩ = false

theorem Touch.refl (S : Nat → Prop) (w : World) : Touch S w w := ⟨rfl, rfl, rfl, Nat.le_refl _, fun _ _ _ => rfl, fun _ _ _ h => h⟩
theorem Touch.trans {S : Nat → Prop} {a b c : World} (h : Touch S a b) (h' : Touch S b c) : Touch S a c :=
  ⟨h'.os.trans h.os, h'.tape.trans h.tape, h'.output.trans h.output, Nat.le_trans h.size h'.size, fun x hx hS => (h'.block x (Nat.lt_of_lt_of_le hx h.size) hS).trans (h.block x hx hS), fun x hS o e => h'.frozen x hS o (h.frozen x hS o e)⟩
theorem Touch.mono {S T : Nat → Prop} {w w' : World} (h : Touch S w w') (hST : ∀ b, S b → T b) (hT : ∀ b, T b → b < w.heap.size) : Touch T w w' :=
  ⟨h.os, h.tape, h.output, h.size, fun x hx hS => h.block x hx (fun e => hS (hST x e)), fun x hx o e => by
    by_cases hS : S x
    · exact h.frozen x hS o e
    · rw [World.frozen?_of_block (h.block x (hT x hx) hS)]; exact e⟩
theorem Touch.below {S : Nat → Prop} {B : Nat} {w w' : World} (h : Touch S w w') (hS : ∀ b, S b → B ≤ b) (hB : B ≤ w.heap.size) : Below B w w' :=
  ⟨h.os, h.tape, h.output, h.size, fun b hb => h.block b (by omega) (fun e => by have := hS b e; omega)⟩
theorem Below.touch {S : Nat → Prop} {w w' : World} (h : Below w.heap.size w w') (hS : ∀ b, S b → b < w.heap.size) : Touch S w w' :=
  ⟨h.os, h.tape, h.output, h.size, fun b hb _ => h.block b hb, fun b hb o e => (World.frozen?_of_block (h.block b (hS b hb))).trans e⟩
theorem Touch.setCell {S : Nat → Prop} {w : World} {b o : Nat} (hb : S b) (v : Value) : Touch S w (w.setCell ⟨b, o, none⟩ v) :=
  ⟨rfl, rfl, rfl, by simp [World.setCell], fun x _ hS => Below.heap_setCell w ⟨b, o, none⟩ v x (fun e => hS (by subst e; exact hb)), fun x hx o' e => by
    rw [World.frozen?_setCell]; exact e⟩

theorem setCells_size' {w w' : World} {g k : Nat} {vs : List Value} (e : w' = setCells w g k vs) : w'.heap.size = w.heap.size := by rw [e, setCells_size]
theorem setCells_block' {w w' : World} {g k : Nat} {vs : List Value} (e : w' = setCells w g k vs) (b : Nat) (hb : b ≠ g) : w'.heap[b]? = w.heap[b]? := by rw [e]; exact setCells_block _ _ _ _ _ hb
/-- an element of an owned row, and what may be put in its place -/
theorem D.ownR_focus {w : World} {size b : Nat} : ∀ (xs : List D) (S : Nat → Prop) (off i : Nat) (h : i < xs.length), D.ownR w size b xs S off →
    ∃ (T : Nat → Prop) (cs : List Value), (∀ x, T x → S x) ∧ cs.length = size ∧ (∀ j v, cs[j]? = some v → w.cell? ⟨b, off + i * size + j, none⟩ = some v) ∧ (xs[i]).own w T cs ∧
      ∀ (w' : World) (d' : D) (cs' : List Value), (∀ x, S x → ¬ T x → w'.heap[x]? = w.heap[x]?) → (∀ j, (j < off + i * size ∨ off + i * size + size ≤ j) → w'.cell? ⟨b, j, none⟩ = w.cell? ⟨b, j, none⟩) →
        cs'.length = size → (∀ j v, cs'[j]? = some v → w'.cell? ⟨b, off + i * size + j, none⟩ = some v) → d'.own w' T cs' → D.ownR w' size b (xs.set i d') S off
  | [], _, _, i, h, _ => by simp at h
  | d :: r, S, off, 0, h, hr => by
    simp only [D.ownR] at hr
    obtain ⟨S1, S2, cs, g1, g2, hl, hc, hd, hrest⟩ := hr
    refine ⟨S1, cs, fun x hx => (g1 x hx).1, hl, by simpa using hc, by simpa using hd, fun w' d' cs' k1 k2 k3 k4 k5 => ?_⟩
    simp only [List.set_cons_zero, D.ownR]
    refine ⟨S1, S2, cs', g1, g2, k3, by simpa using k4, k5, ?_⟩
    refine ownR_keep' size b r S2 (off + size) (fun x hx => k1 x (g2 x hx) (fun e => (g1 x e).2 hx)) (fun j hj => k2 j (.inr (by simpa using hj))) hrest
  | d :: r, S, off, i + 1, h, hr => by
    simp only [D.ownR] at hr
    obtain ⟨S1, S2, cs, g1, g2, hl, hc, hd, hrest⟩ := hr
    obtain ⟨T, cs1, a1, a2, a3, a4, a5⟩ := D.ownR_focus r S2 (off + size) i (by simpa using h) hrest
    have e : off + size + i * size = off + (i + 1) * size := by rw [Nat.add_mul, Nat.one_mul]; omega
    refine ⟨T, cs1, fun x hx => g2 x (a1 x hx), a2, fun j v hj => by rw [← e]; exact a3 j v hj, by simpa using a4, fun w' d' cs' k1 k2 k3 k4 k5 => ?_⟩
    simp only [List.set_cons_succ, D.ownR]
    have hsz : ∀ j, j < size → w'.cell? ⟨b, off + j, none⟩ = w.cell? ⟨b, off + j, none⟩ := fun j hj => k2 (off + j) (.inl (by rw [← e]; omega))
    refine ⟨S1, S2, cs, g1, g2, hl, fun j v hj => ?_, D.own_keep d S1 S1 cs (fun x hx => ⟨hx, k1 x (g1 x hx).1 (fun e => (g1 x hx).2 (a1 x e))⟩) hd, a5 w' d' cs' (fun x hx hT => k1 x (g2 x hx) hT) (fun j hj => k2 j (by rw [← e]; exact hj)) k3 (fun j v hj => by rw [e]; exact k4 j v hj) k5⟩
    have hjl : j < cs.length := (List.getElem?_eq_some_iff.1 hj).1
    rw [hsz j (by omega)]
    exact hc j v hj
where
  ownR_keep' {w w' : World} (size b : Nat) : ∀ (xs : List D) (S : Nat → Prop) (off : Nat), (∀ x, S x → w'.heap[x]? = w.heap[x]?) → (∀ j, off ≤ j → w'.cell? ⟨b, j, none⟩ = w.cell? ⟨b, j, none⟩) → D.ownR w size b xs S off → D.ownR w' size b xs S off
  | [], _, _, _, _, _ => by simp only [D.ownR]
  | d :: r, S, off, h1, h2, hr => by
    simp only [D.ownR] at hr ⊢
    obtain ⟨S1, S2, cs, g1, g2, hl, hc, hd, hrest⟩ := hr
    exact ⟨S1, S2, cs, g1, g2, hl, fun j v hj => (h2 (off + j) (by omega)).trans (hc j v hj), D.own_keep d S1 S1 cs (fun x hx => ⟨hx, h1 x (g1 x hx).1⟩) hd, ownR_keep' size b r S2 (off + size) (fun x hx => h1 x (g2 x hx)) (fun j hj => h2 j (by omega)) hrest⟩

/-- an element of an owned slice, and what may be put in its place -/
theorem Osl.focus {w : World} {S : Nat → Prop} {size : Nat} {A : Option Addr} {c : Nat} {xs : List D} (h : Osl w S size A c xs) (i : Nat) (hi : i < xs.length) :
    ∃ (b : Nat) (T : Nat → Prop) (cs : List Value), A = some ⟨b, 0, none⟩ ∧ S b ∧ ¬ T b ∧ (∀ o, w.frozen? ⟨b, o, none⟩ = false) ∧ (∀ x, T x → S x) ∧ cs.length = size ∧ (∀ j v, cs[j]? = some v → w.cell? ⟨b, i * size + j, none⟩ = some v) ∧ (xs[i]).own w T cs ∧
      ∀ (w' : World) (d' : D) (cs' : List Value), (∀ x, S x → x ≠ b → ¬ T x → w'.heap[x]? = w.heap[x]?) → (∀ j, (j < i * size ∨ i * size + size ≤ j) → w'.cell? ⟨b, j, none⟩ = w.cell? ⟨b, j, none⟩) → (∀ o, w'.frozen? ⟨b, o, none⟩ = false) →
        cs'.length = size → (∀ j v, cs'[j]? = some v → w'.cell? ⟨b, i * size + j, none⟩ = some v) → d'.own w' T cs' → Osl w' S size A c (xs.set i d') := by
  obtain ⟨h1, h2, h3 | ⟨b, rfl, hS, hf, hr⟩⟩ := h
  · subst h3; simp at hi
  · obtain ⟨T, cs, a1, a2, a3, a4, a5⟩ := D.ownR_focus xs _ 0 i hi hr
    refine ⟨b, T, cs, rfl, hS, fun e => (a1 b e).2 rfl, hf, fun x hx => (a1 x hx).1, a2, by simpa using a3, a4, fun w' d' cs' k1 k2 kf k3 k4 k5 => ⟨by simpa using h1, h2, .inr ⟨b, rfl, hS, kf, ?_⟩⟩⟩
    exact a5 w' d' cs' (fun x hx hT => k1 x hx.1 hx.2 hT) (by simpa using k2) k3 (by simpa using k4) k5

end Go.Proofs.Ytnpkmebnmklcfaa

/- The text of a mark, and the numbers of slices of ints. Conditions: the mark is from 1 on. -/
namespace Go.Proofs.Ytnpkmebnmklcfaa
open Go.RowKit
set_option linter.unusedVariables false
set_option linter.unusedSimpArgs false
set_option maxHeartbeats 1000000

/-! ### one element's marking, stage by stage -/
/-- the world u: on the way from wr, where the cells from lo to hi of block b, and blocks of T, are written; w: the world at the beginning -/
structure MSt (w wr : World) (S T : Nat → Prop) (b lo hi : Nat) (u : World) : Prop where
  blk : ∀ x, x < wr.heap.size → x ≠ b → ¬ T x → u.heap[x]? = wr.heap[x]?
  out : ∀ o, (o < lo ∨ hi ≤ o) → u.cell? ⟨b, o, none⟩ = wr.cell? ⟨b, o, none⟩
  fr : ∀ o, u.frozen? ⟨b, o, none⟩ = false
  touch : Touch S w u
  size : wr.heap.size ≤ u.heap.size
theorem cell_ne {w : World} {b i k : Nat} {v : Value} (h : i ≠ k) : (w.setCell ⟨b, i, none⟩ v).cell? ⟨b, k, none⟩ = w.cell? ⟨b, k, none⟩ :=
  World.cell?_setCell_other _ _ _ _ (fun e => h (congrArg Addr.off e))
theorem MSt.start {w wr : World} {S T : Nat → Prop} {b lo hi : Nat} (hf : ∀ o, wr.frozen? ⟨b, o, none⟩ = false) (ht : Touch S w wr) : MSt w wr S T b lo hi wr :=
  ⟨fun _ _ _ _ => rfl, fun _ _ => rfl, hf, ht, Nat.le_refl _⟩
theorem MSt.set {w wr u : World} {S T : Nat → Prop} {b lo hi : Nat} (h : MSt w wr S T b lo hi u) (hS : S b) (o : Nat) (h1 : lo ≤ o) (h2 : o < hi) (v : Value) : MSt w wr S T b lo hi (u.setCell ⟨b, o, none⟩ v) :=
  ⟨fun x a1 a2 a3 => (Below.heap_setCell u ⟨b, o, none⟩ v x a2).trans (h.blk x a1 a2 a3), fun q hq => (cell_ne (by omega)).trans (h.out q hq), fun q => (World.frozen?_setCell _ _ _ _).trans (h.fr q), h.touch.trans (Touch.setCell hS v), by have := h.size; simpa [World.setCell] using this⟩
theorem MSt.below {w wr u u' : World} {S T : Nat → Prop} {b lo hi : Nat} (h : MSt w wr S T b lo hi u) (hb : Below u.heap.size u u') (hbl : b < wr.heap.size) (hS : ∀ x, S x → x < w.heap.size) : MSt w wr S T b lo hi u' :=
  ⟨fun x a1 a2 a3 => (hb.block x (Nat.lt_of_lt_of_le a1 h.size)).trans (h.blk x a1 a2 a3), fun q hq => (hb.cell (p := ⟨b, q, none⟩) (Nat.lt_of_lt_of_le hbl h.size)).trans (h.out q hq), fun q => (hb.frozen (p := ⟨b, q, none⟩) (Nat.lt_of_lt_of_le hbl h.size)).trans (h.fr q),
    h.touch.trans (Below.touch hb (fun x hx => Nat.lt_of_lt_of_le (hS x hx) h.touch.size)), Nat.le_trans h.size hb.size⟩
theorem MSt.mark {w wr u u' : World} {S T T' : Nat → Prop} {b lo hi : Nat} (h : MSt w wr S T b lo hi u) (ht : Touch T' u u') (hT : ∀ x, T' x → T x) (hTS : ∀ x, T x → S x) (hTb : ¬ T b) (hbl : b < wr.heap.size) (hS : ∀ x, S x → x < w.heap.size) : MSt w wr S T b lo hi u' :=
  have hu : b < u.heap.size := Nat.lt_of_lt_of_le hbl h.size
  have hbb := ht.block b hu (fun e => hTb (hT b e))
  ⟨fun x a1 a2 a3 => (ht.block x (Nat.lt_of_lt_of_le a1 h.size) (fun e => a3 (hT x e))).trans (h.blk x a1 a2 a3), fun q hq => (World.cell?_of_block hbb).trans (h.out q hq), fun q => (World.frozen?_of_block hbb).trans (h.fr q),
    h.touch.trans (ht.mono (fun x hx => hTS x (hT x hx)) (fun x hx => Nat.lt_of_lt_of_le (hS x hx) h.touch.size)), Nat.le_trans h.size ht.size⟩
theorem MSt.blk2 {w wr u : World} {S T : Nat → Prop} {b lo hi : Nat} (h : MSt w wr S T b lo hi u) (hS : ∀ x, S x → x < w.heap.size) (hl : w.heap.size ≤ wr.heap.size) : ∀ x, S x → x ≠ b → ¬ T x → u.heap[x]? = wr.heap[x]? :=
  fun x a1 a2 a3 => h.blk x (Nat.lt_of_lt_of_le (hS x a1) hl) a2 a3
theorem Osl.set {u : World} {T : Nat → Prop} {size b o c : Nat} {A : Option Addr} {xs : List D} (h : Osl u T size A c xs) (hb : ¬ T b) (v : Value) : Osl (u.setCell ⟨b, o, none⟩ v) T size A c xs :=
  h.keep fun x hx => ⟨hx, Below.heap_setCell u ⟨b, o, none⟩ v x (fun e => hb (by subst e; exact hx))⟩
theorem Osl.belowS {u u' : World} {T : Nat → Prop} {size c : Nat} {A : Option Addr} {xs : List D} (h : Osl u T size A c xs) (hb : Below u.heap.size u u') (hT : ∀ x, T x → x < u.heap.size) : Osl u' T size A c xs :=
  h.keep fun x hx => ⟨hx, hb.block x (hT x hx)⟩
theorem Osl.touched {u u' : World} {T T' : Nat → Prop} {size c : Nat} {A : Option Addr} {xs : List D} (h : Osl u T size A c xs) (ht : Touch T' u u') (hd : ∀ x, T x → ¬ T' x) (hT : ∀ x, T x → x < u.heap.size) : Osl u' T size A c xs :=
  h.keep fun x hx => ⟨hx, ht.block x (hT x hx) (hd x hx)⟩

/-- a list that is marked, from number k on: each element by mk, cn numbers an element -/
def markL {α : Type} (mk : α → Nat → α) (cn : α → Nat) : List α → Nat → List α
  | [], _ => []
  | t :: r, k => mk t k :: markL mk cn r (k + cn t)
def cntL {α : Type} (cn : α → Nat) : List α → Nat
  | [] => 0
  | t :: r => cn t + cntL cn r
theorem markL_length {α : Type} (mk : α → Nat → α) (cn : α → Nat) : ∀ (l : List α) (k : Nat), (markL mk cn l k).length = l.length
  | [], _ => rfl
  | t :: r, k => by simp only [markL, List.length_cons, markL_length mk cn r]
theorem cntL_take_succ {α : Type} (cn : α → Nat) (l : List α) (j : Nat) (h : j < l.length) : cntL cn (l.take (j + 1)) = cntL cn (l.take j) + cn l[j] := by
  induction l generalizing j with
  | nil => simp at h
  | cons t r ih =>
    match j with
    | 0 => simp [cntL]
    | j + 1 => simp only [List.take_succ_cons, cntL, List.getElem_cons_succ]; rw [ih j (by simpa using h)]; omega
theorem markL_take_succ {α : Type} (mk : α → Nat → α) (cn : α → Nat) (l : List α) (j k : Nat) (h : j < l.length) : markL mk cn (l.take (j + 1)) k = markL mk cn (l.take j) k ++ [mk l[j] (k + cntL cn (l.take j))] := by
  induction l generalizing j k with
  | nil => simp at h
  | cons t r ih =>
    match j with
    | 0 => simp [markL, cntL]
    | j + 1 =>
      simp only [List.take_succ_cons, markL, List.getElem_cons_succ, List.cons_append, cntL]
      rw [ih j (k + cn t) (by simpa using h), Nat.add_assoc]
theorem cntL_take_le {α : Type} (cn : α → Nat) (l : List α) (j : Nat) (h : j < l.length) : cntL cn (l.take j) + cn l[j] ≤ cntL cn l := by
  induction l generalizing j with
  | nil => simp at h
  | cons t r ih =>
    match j with
    | 0 => simp [cntL]
    | j + 1 => simp only [List.take_succ_cons, cntL, List.getElem_cons_succ]; have := ih j (by simpa using h); omega
theorem markL_get {α : Type} (mk : α → Nat → α) (cn : α → Nat) (l : List α) (k j : Nat) (h : j < l.length) : (markL mk cn l k)[j]'(by rw [markL_length]; exact h) = mk l[j] (k + cntL cn (l.take j)) := by
  induction l generalizing k j with
  | nil => simp at h
  | cons t r ih =>
    match j with
    | 0 => simp [markL, cntL]
    | j + 1 =>
      simp only [markL, List.getElem_cons_succ, List.take_succ_cons, cntL]
      rw [ih (k + cn t) j (by simpa using h), Nat.add_assoc]
theorem cntL_le {α : Type} (cn f : α → Nat) (l : List α) (H : ∀ t, t ∈ l → cn t ≤ 16 * (1 + f t)) : cntL cn l ≤ 16 * bulkL f l := by
  induction l with
  | nil => simp [cntL]
  | cons t r ih =>
    simp only [cntL, bulkL]
    have := H t (by simp)
    have := ih (fun x hx => H x (by simp [hx]))
    omega
/-- the first j elements are marked -/
def markTo {α : Type} (mk : α → Nat → α) (cn : α → Nat) (l : List α) (k j : Nat) : List α := markL mk cn (l.take j) k ++ l.drop j
theorem markTo_zero {α : Type} (mk : α → Nat → α) (cn : α → Nat) (l : List α) (k : Nat) : markTo mk cn l k 0 = l := by simp [markTo, markL]
theorem markTo_all {α : Type} (mk : α → Nat → α) (cn : α → Nat) (l : List α) (k : Nat) : markTo mk cn l k l.length = markL mk cn l k := by simp [markTo]
theorem markTo_length {α : Type} (mk : α → Nat → α) (cn : α → Nat) (l : List α) (k j : Nat) (h : j ≤ l.length) : (markTo mk cn l k j).length = l.length := by
  simp only [markTo, List.length_append, markL_length, List.length_take, List.length_drop]; omega
theorem markTo_get {α : Type} (mk : α → Nat → α) (cn : α → Nat) (l : List α) (k j : Nat) (h : j < l.length) : (markTo mk cn l k j)[j]'(by rw [markTo_length mk cn l k j (by omega)]; exact h) = l[j] := by
  have e : (markL mk cn (l.take j) k).length = j := by rw [markL_length]; simp; omega
  simp only [markTo]
  rw [List.getElem_append_right (by omega)]
  simp [e]
theorem markTo_set {α : Type} (mk : α → Nat → α) (cn : α → Nat) (l : List α) (k j : Nat) (h : j < l.length) : (markTo mk cn l k j).set j (mk l[j] (k + cntL cn (l.take j))) = markTo mk cn l k (j + 1) := by
  have e : (markL mk cn (l.take j) k).length = j := by rw [markL_length]; simp; omega
  simp only [markTo]
  rw [markL_take_succ mk cn l j k h, List.set_append_right _ _ (by omega), e, Nat.sub_self, List.drop_eq_getElem_cons h, List.set_cons_zero, List.append_assoc]
  rfl

theorem wfNat (n : Nat) (h : n ≤ 9223372036854775807) : (Lit.int .i64 (n : Int)).wf = true := by
  simp [Lit.wf, IntKind.min, IntKind.max, IntKind.signed, IntKind.bits]; omega
/-- the text of a mark -/
def markT (k : Nat) : ByteArray := ⟨#[109]⟩ ++ digU k
theorem markT_size (k : Nat) (h : k ≤ 9223372036854775807) : (markT k).size ≤ 20 := by
  unfold markT
  have := digU_size19 k (by omega)
  rw [ByteArray.size_append]
  have : (⟨#[109]⟩ : ByteArray).size = 1 := rfl
  omega

theorem markText (n : Nat) (w : World) (h1 : 0 < n) (h2 : n ≤ 9223372036854775807) :
    Calls Try.prog 33 #[.int .i64 n] w fun e w' => e = .returned (.string (markT n)) ∧ Below w.heap.size w w' := by
  have hcv := fun (w : World) (x : Int) => run_string_one (P := Try.prog) w 106 9 5 x Try.underlying106 Try.underlying5 Try.underlying9
  have hz : decide ((n : Int) ≤ 0) = false := decide_eq_false (by omega)
  go_enter Try.func33, Try.ntmps33
  go_wp2
  go_loopw [0, 3] (fun t i wr => ∃ (a : Nat) (s : ByteArray), a ≤ 9223372036854775807 ∧ t = .int .i64 a ∧ i = .string s ∧ digR a s = digR n ⟨#[]⟩ ∧ Below w.heap.size w wr) (fun t _ _ => (intOf t).toNat)
  case atStart => exact ⟨n, ⟨#[]⟩, by omega, by go_num, rfl, rfl, Below.refl _ _⟩
  case round =>
    obtain ⟨a, s, ha, rfl, rfl, hd, hb⟩ := hrel
    have hs : s.size ≤ 19 := by
      have g1 := digR_size a s
      rw [hd, digR_start (by omega)] at g1
      have := digU_size19 n (by omega)
      omega
    have Hd := Lib.hid hd
    clear hd
    have hbs := hb.size
    rcases Nat.eq_zero_or_pos a with hz0 | hp
    · subst hz0
      go_wp2
      go_ret
      refine ⟨ret_str ?_, hb⟩
      have e := Hd.out
      rw [digR_zero, digR_start (by omega)] at e
      rw [e]; rfl
    · have hk1 : 0 < (a : Int) := by omega
      have hm : 0 ≤ (a : Int) % 10 ∧ (a : Int) % 10 ≤ 9 := by omega
      have Hst := Lib.hid (digR_step (a := a) (by omega) s)
      go_wp2
      go_roundw
      case rel => exact ⟨a / 10, one (48 + (a : Int) % 10) ++ s, by omega, by go_num, rfl, by rw [← Hd.out, ← Hst.out]; simp, hb.alloc hbs _⟩
      case measure => simp [intOf]; omega
theorem markTextI (x : Int) (n : Nat) (e : x = n) (w : World) (h1 : 0 < n) (h2 : n ≤ 9223372036854775807) :
    Calls Try.prog 33 #[.int .i64 x] w fun e w' => e = .returned (.string (markT n)) ∧ Below w.heap.size w w' := by
  subst e; exact markText n w h1 h2
end Go.Proofs.Ytnpkmebnmklcfaa

/- Slices of ints: copies, equality, marks. Conditions: none but a bound on the length. -/
namespace Go.Proofs.Ytnpkmebnmklcfaa
open Go.RowKit
set_option linter.unusedVariables false
set_option linter.unusedSimpArgs false
set_option maxHeartbeats 1000000

theorem int_wf {n : Int} (h : (Lit.int .i64 n).wf = true) : -9223372036854775808 ≤ n ∧ n ≤ 9223372036854775807 := by
  simpa [Lit.wf, IntKind.min, IntKind.max, IntKind.signed, IntKind.bits] using h
theorem int_elem {w : World} {S : Nat → Prop} {A : Option Addr} {c : Nat} {l : List Int} (h : Sl w S 1 A c (l.map (D.num .i64))) (i : Nat) (hi : i < l.length) :
    ∃ b off, A = some ⟨b, off, none⟩ ∧ S b ∧ w.cell? ⟨b, off + i, none⟩ = some (.int .i64 l[i]) ∧ (Lit.int .i64 l[i]).wf = true := by
  obtain ⟨b, off, cs, e, hb, hl, hc, hr⟩ := Sl.get h i (by simpa using hi)
  rw [List.getElem_map, D.rd_num] at hr
  obtain ⟨rfl, hw⟩ := hr
  exact ⟨b, off, e, hb, by simpa using hc 0 _ rfl, hw⟩

def ToIntS (l : List Int) (w : World) (e : Ending) (w' : World) : Prop := ∃ A1 c1, e = .returned (.slice A1 l.length c1) ∧ Osl w' (Btw w.heap.size w'.heap.size) 1 A1 c1 (l.map (D.num .i64)) ∧ Below w.heap.size w w'


theorem eqIntS' (l : List Int) (A B : Option Addr) (c d : Nat) (w : World) (hs : Sl w (Lt w.heap.size) 1 A c (l.map (D.num .i64))) (hs' : Sl w (Lt w.heap.size) 1 B d (l.map (D.num .i64))) :
    Calls Try.prog 29 #[.slice A l.length c, .slice B l.length d] w fun e w' => e = .returned (.bool true) ∧ Below w.heap.size w w' := by
  have hlen : l.length ≤ 9223372036854775807 := by simpa using hs.len
  have S0 := Lib.hid hs
  have S1 := Lib.hid hs'
  clear hs hs'
  go_enter Try.func29, Try.ntmps29
  go_wp2_with fail
  go_loopw [5] (fun i wr => ∃ (j : Nat), j ≤ l.length ∧ i = .int .i64 j ∧ Below w.heap.size w wr) (fun i _ => l.length - (intOf i).toNat)
  case atStart => exact ⟨0, by omega, by go_num, Below.refl _ _⟩
  case round =>
    obtain ⟨j, hj, rfl, hb⟩ := hrel
    by_cases hlt : j < l.length
    · obtain ⟨b, off, rfl, hSb, g0, _⟩ := int_elem (S0.out.below hb (Nat.le_refl _)) j hlt
      obtain ⟨b', off', rfl, hSb', g0', _⟩ := int_elem (S1.out.below hb (Nat.le_refl _)) j hlt
      go_wp2_with fail
      go_quiet (fail)
      go_wp2_with fail
      go_roundw
      case rel => exact ⟨j + 1, by omega, by go_num, ⟨hb.os, hb.tape, hb.output, hb.size, hb.block⟩⟩
      case measure => simp [intOf]; omega
    · go_wp2_with fail
      go_ret
      exact ⟨rfl, hb⟩

def mkI (_ : Int) (k : Nat) : Int := k
def cnI (_ : Int) : Nat := 1
theorem cntL_int (l : List Int) : cntL cnI l = l.length := by
  induction l with
  | nil => rfl
  | cons t r ih => simp only [cntL, cnI, ih, List.length_cons]; omega

theorem markIntS (l : List Int) (A : Option Addr) (c k : Nat) (S : Nat → Prop) (w : World) (hk : k + cntL cnI l ≤ 4611686018427387904) (hs : Osl w S 1 A c (l.map (D.num .i64))) :
    Calls Try.prog 35 #[.slice A l.length c, .int .i64 k] w fun e w' => e = .returned (.int .i64 ((k + cntL cnI l : Nat) : Int)) ∧ Osl w' S 1 A c ((markL mkI cnI l k).map (D.num .i64)) ∧ Touch S w w' := by
  have hlen : l.length ≤ 9223372036854775807 := by simpa using hs.sl.len
  rw [cntL_int] at hk ⊢
  have S0 := Lib.hid hs
  clear hs
  go_enter Try.func35, Try.ntmps35
  go_wp2_with fail
  go_loopw [1, 5] (fun v i wr => ∃ (j : Nat), j ≤ l.length ∧ i = .int .i64 j ∧ v = .int .i64 ((k + j : Nat) : Int) ∧ Hid (Osl wr S 1 A c ((markTo mkI cnI l k j).map (D.num .i64))) ∧ Hid (Touch S w wr)) (fun _ i _ => l.length - (intOf i).toNat)
  case atStart => exact ⟨0, by omega, by go_num, by go_num, Lib.hid (by rw [markTo_zero]; exact S0.out), Lib.hid (Touch.refl _ _)⟩
  case round =>
    obtain ⟨j, hj, rfl, rfl, HO, HT⟩ := hrel
    by_cases hlt : j < l.length
    · obtain ⟨b, T, cs, rfl, hSb, hTb, hf, hTS, hcl, hc, hd, hput⟩ := HO.out.focus j (by rw [List.length_map, markTo_length _ _ _ _ _ hj]; exact hlt)
      obtain ⟨v0, rfl⟩ : ∃ v, cs = [v] := by match cs, hcl with | [v], _ => exact ⟨v, rfl⟩
      have x0 : wr.cell? ⟨b, j, none⟩ = some v0 := by simpa using hc 0 _ rfl
      have HP := Lib.hid (hput (wr.setCell ⟨b, j, none⟩ (.int .i64 ((k + j : Nat) : Int))) (.num .i64 ((k + j : Nat) : Int)) [.int .i64 ((k + j : Nat) : Int)] (fun x _ hx _ => Below.heap_setCell wr ⟨b, j, none⟩ _ x hx)
        (fun q hq => World.cell?_setCell_other _ _ _ _ (fun e => by have := congrArg Addr.off e; simp at this; omega)) (fun o => (World.frozen?_setCell _ _ _ _).trans (hf o)) rfl
        (fun q v hv => by
          match q with
          | 0 =>
            have hv : (.int .i64 ((k + j : Nat) : Int)) = v := by simpa using hv
            subst hv
            rw [show j * 1 + 0 = j by omega]
            exact World.cell?_setCell_same _ _ _ x0
          | q + 1 => simp at hv)
        (D.own_num.2 ⟨rfl, by simp [Lit.wf, IntKind.min, IntKind.max, IntKind.signed, IntKind.bits]; omega⟩))
      have HT2 := Lib.hid (HT.out.trans (Touch.setCell (w := wr) (o := j) hSb (.int .i64 ((k + j : Nat) : Int))))
      clear hput hc hd hTS
      go_wp2_with fail
      go_roundw
      case rel => exact ⟨j + 1, by omega, by go_num, by go_num, Lib.hid (by have e := markTo_set mkI cnI l k j hlt; rw [cntL_int] at e; simp only [List.length_take, Nat.min_eq_left hj] at e; rw [← e, List.map_set]; exact HP.out), HT2⟩
      case measure => simp [intOf]; omega
    · have hjl : j = l.length := by omega
      have Hj := Lib.hid hjl
      clear hjl
      go_wp2_with fail
      go_ret
      exact ⟨ret_int (by rw [Hj.out]), by have := HO.out; rw [Hj.out, markTo_all] at this; exact this, HT.out⟩

theorem markIntSI (l : List Int) (A : Option Addr) (c k : Nat) (x : Int) (S : Nat → Prop) (w : World) (hx : x = k) (hk : k + cntL cnI l ≤ 4611686018427387904) (hs : Osl w S 1 A c (l.map (D.num .i64))) :
    Calls Try.prog 35 #[.slice A l.length c, .int .i64 x] w fun e w' => e = .returned (.int .i64 ((k + cntL cnI l : Nat) : Int)) ∧ Osl w' S 1 A c ((markL mkI cnI l k).map (D.num .i64)) ∧ Touch S w w' := by
  subst hx; exact markIntS l A c k S w hk hs

theorem heldIntSI (l : List Int) (A : Option Addr) (c k : Nat) (x : Int) (w : World) (hx : x = k) (hk : k + cntL cnI l ≤ 4611686018427387904) (hs : Sl w (Lt w.heap.size) 1 A c ((markL mkI cnI l k).map (D.num .i64))) :
    Calls Try.prog 37 #[.slice A l.length c, .int .i64 x] w fun e w' => e = .returned (.int .i64 ((k + cntL cnI l : Nat) : Int)) ∧ Below w.heap.size w w' := by
  subst hx
  have hlen : l.length ≤ 9223372036854775807 := by have := hs.len; simpa [markL_length] using this
  rw [cntL_int] at hk ⊢
  have S0 := Lib.hid hs
  clear hs
  go_enter Try.func37, Try.ntmps37
  go_wp2_with fail
  go_loopw [1, 5] (fun v i wr => ∃ (j : Nat), j ≤ l.length ∧ i = .int .i64 j ∧ v = .int .i64 ((k + j : Nat) : Int) ∧ Below w.heap.size w wr) (fun _ i _ => l.length - (intOf i).toNat)
  case atStart => exact ⟨0, by omega, by go_num, by go_num, Below.refl _ _⟩
  case round =>
    obtain ⟨j, hj, rfl, ev, hb⟩ := hrel
    obtain ⟨K, hK⟩ : ∃ K, K = k + j := ⟨_, rfl⟩
    rw [← hK] at ev
    subst ev
    by_cases hlt : j < l.length
    · obtain ⟨b, off, rfl, hSb, g0, _⟩ := int_elem (S0.out.below hb (Nat.le_refl _)) j (by rw [markL_length]; exact hlt)
      rw [markL_get _ _ _ _ _ hlt] at g0
      have x0 : wr.cell? ⟨b, off + j, none⟩ = some (.int .i64 (K : Int)) := by rw [g0, mkI, cntL_int, hK]; simp; omega
      have hKb : K ≤ 4611686018427387903 := by omega
      have HK := Lib.hid hK
      clear g0 hK
      go_wp2_with fail
      go_roundw
      case rel => exact ⟨j + 1, by omega, by go_num, by rw [HK.out]; go_num, hb⟩
      case measure => simp [intOf]; omega
    · have hjl : j = l.length := by omega
      have Hj := Lib.hid hjl
      have HK := Lib.hid hK
      clear hjl hK
      go_wp2_with fail
      go_ret
      exact ⟨ret_int (by rw [HK.out, Hj.out]), hb⟩
end Go.Proofs.Ytnpkmebnmklcfaa

/- Rows of numbers, and growing slices cut by one (no program in sight). Conditions: none. -/
namespace Go.Proofs.Ytnpkmebnmklcfaa
open Go.RowKit
set_option linter.unusedVariables false
set_option linter.unusedSimpArgs false

/-- the cells of a list of numbers -/
def rowI (l : List Int) : Array Value := (l.map (Value.int .i64)).toArray
theorem rowI_get {l : List Int} {k : Nat} (h : k < l.length) : (rowI l)[k]? = some (.int .i64 l[k]) := by
  unfold rowI; simp [h]
theorem rowI_set (l : List Int) (k : Nat) (d : Int) : (rowI l).setIfInBounds k (.int .i64 d) = rowI (l.set k d) := by
  unfold rowI; rw [List.map_set]; simp
theorem rowI_size (l : List Int) : (rowI l).size = l.length := by unfold rowI; simp
theorem zr_int (n : Nat) : zr (.int .i64 0) 1 n = rowI (List.replicate n 0) := by
  unfold zr rowI madeCells
  apply Array.ext
  · simp [Value.cells]
  · intro i h1 h2
    have e : i % 1 = 0 := Nat.mod_one i
    simp [Value.cells, e]
theorem wf_i64 {n : Int} (h1 : -9223372036854775808 ≤ n) (h2 : n ≤ 9223372036854775807) : (Lit.int .i64 n).wf = true := by
  simp [Lit.wf, IntKind.min, IntKind.max, IntKind.signed, IntKind.bits]; omega
theorem rowI_ownR {w : World} {b : Nat} : ∀ (l : List Int) (S : Nat → Prop) (off : Nat), (∀ x ∈ l, (Lit.int .i64 x).wf = true) → (∀ k (h : k < l.length), w.cell? ⟨b, off + k, none⟩ = some (.int .i64 l[k])) → D.ownR w 1 b (l.map (D.num .i64)) S off
  | [], _, _, _, _ => by simp only [List.map_nil, D.ownR]
  | x :: r, S, off, hw, hc => by
    simp only [List.map_cons, D.ownR]
    refine ⟨fun _ => False, S, [.int .i64 x], fun _ h => h.elim, fun _ h => h, rfl, fun j v hj => ?_, D.own_num.2 ⟨rfl, hw x (by simp)⟩, rowI_ownR r S (off + 1) (fun y hy => hw y (by simp [hy])) fun k h => ?_⟩
    · match j with
      | 0 => have := hc 0 (by simp); simp at hj; subst hj; simpa using this
      | j + 1 => simp at hj
    · have := hc (k + 1) (by simpa using h)
      rw [show off + 1 + k = off + (k + 1) by omega]
      simpa using this
theorem rowI_osl {w : World} {g B : Nat} {t : TypeId} {l : List Int} (h : Row w g t (rowI l)) (hB : B ≤ g) (hl : l.length ≤ maxLen) (hw : ∀ x ∈ l, (Lit.int .i64 x).wf = true) : Osl w (Btw B w.heap.size) 1 (some ⟨g, 0, none⟩) l.length (l.map (D.num .i64)) :=
  ⟨by simp, hl, .inr ⟨g, rfl, ⟨hB, h.lt⟩, fun o => h.frozen o, rowI_ownR l _ 0 hw fun k hk => by rw [Nat.zero_add, h.cell, rowI_get hk]⟩⟩
theorem rowI_sl {w : World} {g : Nat} {t : TypeId} {l : List Int} (h : Row w g t (rowI l)) (hl : l.length ≤ maxLen) (hw : ∀ x ∈ l, (Lit.int .i64 x).wf = true) : Sl w (Lt w.heap.size) 1 (some ⟨g, 0, none⟩) l.length (l.map (D.num .i64)) :=
  ((rowI_osl (B := 0) h (by omega) hl hw).sl).keep fun b hb => ⟨hb.2, rfl⟩

theorem rdC_len {w : World} {size : Nat} {S : Nat → Prop} : ∀ (xs : List D) (cs : List Value), rdC w size S xs cs → cs.length = xs.length * size
  | [], cs, h => by simp only [rdC] at h; simp [h]
  | d :: r, cs, h => by
    simp only [rdC] at h
    obtain ⟨c1, c2, rfl, hl, _, h2⟩ := h
    have := rdC_len r c2 h2
    rw [List.length_append, hl, this, List.length_cons, Nat.add_mul]; omega
theorem rdC_init {w : World} {size : Nat} {S : Nat → Prop} {d : D} : ∀ (xs : List D) (cs : List Value), rdC w size S (xs ++ [d]) cs → ∃ c1 c2, cs = c1 ++ c2 ∧ rdC w size S xs c1
  | [], cs, h => ⟨[], cs, rfl, rfl⟩
  | x :: r, cs, h => by
    simp only [List.cons_append, rdC] at h
    obtain ⟨c1, c2, rfl, hl, h1, h2⟩ := h
    obtain ⟨e1, e2, rfl, h3⟩ := rdC_init r c2 h2
    refine ⟨c1 ++ e1, e2, by simp, ?_⟩
    simp only [rdC]
    exact ⟨c1, e1, rfl, hl, h1, h3⟩
/-- the last element cut off -/
theorem Gsh.pop {w : World} {B : Nat} {e : TypeId} {size : Nat} {A : Option Addr} {c n : Nat} {d : D} {xs : List D} (h : Gsh w B e size (.slice A (n + 1) c) (n + 1) (xs ++ [d])) : Gsh w B e size (.slice A n c) n xs := by
  obtain ⟨h1, cs, h2, h4⟩ := h
  have hx : xs.length = n := by simpa using h1
  obtain ⟨c1, c2, rfl, h5⟩ := rdC_init xs cs h4
  have hc1 := rdC_len _ _ h5
  refine ⟨hx, c1, ⟨by rw [hc1, hx], ?_⟩, h5⟩
  rcases h2.2 with ⟨_, h⟩ | ⟨g, cap, cur, hv, a1, a2, a3, a4, a5, a6⟩
  · omega
  · simp only [Value.slice.injEq] at hv
    obtain ⟨rfl, _, rfl⟩ := hv
    refine .inr ⟨g, c, cur, rfl, a1, a2, by omega, a4, a5, ?_⟩
    have e1 : (c1 ++ c2).take (n * size) = c1 := by rw [← hx, ← hc1]; simp
    rw [← a6, List.take_take] at e1
    rwa [Nat.min_eq_left (by rw [Nat.add_mul]; omega)] at e1
/-- a slice that was just laid -/
theorem Gsh.laid {w : World} {B g : Nat} {e : TypeId} {size : Nat} {cs : Array Value} {n : Nat} {xs : List D} (hr : Row w g e cs) (hB : B ≤ g) (hx : rdC w size (Lt B) xs cs.toList) (hn : xs.length = n) (hm : n ≤ maxLen) : Gsh w B e size (.slice (some ⟨g, 0, none⟩) n n) n xs := by
  have hl := rdC_len _ _ hx
  rw [hn] at hl
  exact ⟨hn, cs.toList, ⟨hl, .inr ⟨g, n, cs, rfl, hB, hr, Nat.le_refl _, hm, by simpa using hl, by rw [← hl]; exact List.take_length⟩⟩, hx⟩
theorem rdC_int {w : World} {S : Nat → Prop} : ∀ (l : List Int), (∀ x ∈ l, (Lit.int .i64 x).wf = true) → rdC w 1 S (l.map (D.num .i64)) (l.map (Value.int .i64))
  | [], _ => rfl
  | x :: r, h => by
    simp only [List.map_cons, rdC]
    exact ⟨[.int .i64 x], r.map (Value.int .i64), rfl, rfl, D.rd_num.2 ⟨rfl, h x (by simp)⟩, rdC_int r fun y hy => h y (by simp [hy])⟩
end Go.Proofs.Ytnpkmebnmklcfaa

/- The vars of a type: as they are met, and ascending. Conditions: none but a bound on the sizes. -/
namespace Go.Proofs.Ytnpkmebnmklcfaa
open Go.RowKit
set_option linter.unusedVariables false
set_option linter.unusedSimpArgs false
set_option maxHeartbeats 2000000

/-- a number put into an ascending list, once -/
def ins (n : Int) : List Int → List Int
  | [] => [n]
  | x :: r => if x < n then x :: ins n r else if x = n then x :: r else n :: x :: r
theorem ins_at {n : Int} : ∀ {l : List Int} {j : Nat}, j ≤ l.length → (∀ k (h : k < l.length), k < j → l[k] < n) → ins n l = l.take j ++ ins n (l.drop j)
  | l, 0, _, _ => by simp
  | [], j + 1, h, _ => by simp at h
  | x :: r, j + 1, h, hk => by
    have h0 := hk 0 (by simp) (by omega)
    simp only [List.getElem_cons_zero] at h0
    have ih := ins_at (n := n) (l := r) (j := j) (by simpa using h) (fun k h1 h2 => by have := hk (k + 1) (by simpa using h1) (by omega); simpa using this)
    simp only [ins, if_pos h0, List.take_succ_cons, List.drop_succ_cons, List.cons_append, ih]
theorem ins_here {n : Int} {l : List Int} {j : Nat} (hj : j < l.length) (hk : ∀ k (h : k < l.length), k < j → l[k] < n) (e : l[j] = n) : ins n l = l := by
  rw [ins_at (j := j) (by omega) hk, List.drop_eq_getElem_cons hj, ins, if_neg (by omega), if_pos e, ← List.drop_eq_getElem_cons hj, List.take_append_drop]
theorem ins_new {n : Int} {l : List Int} {j : Nat} (hj : j ≤ l.length) (hk : ∀ k (h : k < l.length), k < j → l[k] < n) (e : ∀ h : j < l.length, n < l[j]) : ins n l = l.take j ++ n :: l.drop j := by
  rw [ins_at hj hk]
  congr 1
  by_cases h : j < l.length
  · have := e h
    rw [List.drop_eq_getElem_cons h, ins, if_neg (by omega), if_neg (by omega)]
  · rw [List.drop_of_length_le (by omega)]; rfl
theorem ins_len (n : Int) : ∀ l : List Int, (ins n l).length ≤ l.length + 1
  | [] => by simp [ins]
  | x :: r => by have := ins_len n r; simp only [ins]; split; simp; omega; split <;> simp
theorem ins_mem {n a : Int} : ∀ {l : List Int}, a ∈ ins n l ↔ a ∈ l ∨ a = n
  | [] => by simp [ins]
  | x :: r => by
    simp only [ins]
    split
    · simp only [List.mem_cons, ins_mem (l := r), or_assoc]
    · split
      · rename_i h; subst h; simp only [List.mem_cons]; constructor
        · exact .inl
        · rintro (h | rfl); exact h; exact .inl rfl
      · simp only [List.mem_cons]; constructor
        · rintro (h | h); exact .inr h; exact .inl h
        · rintro (h | h); exact .inr h; exact .inl h
theorem ins_asc {n : Int} : ∀ {l : List Int}, l.Pairwise (· < ·) → (ins n l).Pairwise (· < ·)
  | [], _ => by simp [ins]
  | x :: r, h => by
    rw [List.pairwise_cons] at h
    simp only [ins]
    split
    · rename_i h1
      rw [List.pairwise_cons]
      refine ⟨fun a ha => ?_, ins_asc h.2⟩
      rcases ins_mem.1 ha with h2 | rfl
      · exact h.1 a h2
      · exact h1
    · split
      · rw [List.pairwise_cons]; exact h
      · rename_i h1 h2
        rw [List.pairwise_cons]
        refine ⟨fun a ha => ?_, List.pairwise_cons.2 h⟩
        rcases List.mem_cons.1 ha with rfl | ha
        · omega
        · have := h.1 a ha; omega

mutual
/-- the vars of a type, ascending, put into a list -/
def GTy.vs : GTy → List Int → List Int | .mk op n s kids, xs => GTy.vsL kids (if op = 2 then ins n xs else xs)
def GTy.vsL : List GTy → List Int → List Int | [], xs => xs | t :: r, xs => GTy.vsL r (t.vs xs)
end
mutual
/-- the vars of a type as they are met, behind a list -/
def GTy.vi : GTy → List Int → List Int | .mk op n s kids, xs => GTy.viL kids (if op = 2 ∧ xs.any (fun x => x == n) = false then xs ++ [n] else xs)
def GTy.viL : List GTy → List Int → List Int | [], xs => xs | t :: r, xs => GTy.viL r (t.vi xs)
end
theorem GTy.vs_eq (t : GTy) (xs : List Int) : t.vs xs = GTy.vsL t.kids (if t.op = 2 then ins t.n xs else xs) := by cases t; rw [GTy.vs]; rfl
theorem GTy.vi_eq (t : GTy) (xs : List Int) : t.vi xs = GTy.viL t.kids (if t.op = 2 ∧ xs.any (fun x => x == t.n) = false then xs ++ [t.n] else xs) := by cases t; rw [GTy.vi]; rfl
theorem GTy.vsL_snoc (t : GTy) : ∀ (l : List GTy) (xs : List Int), GTy.vsL (l ++ [t]) xs = t.vs (GTy.vsL l xs)
  | [], xs => by simp [GTy.vsL]
  | x :: r, xs => by simp only [List.cons_append, GTy.vsL, GTy.vsL_snoc t r]
theorem GTy.viL_snoc (t : GTy) : ∀ (l : List GTy) (xs : List Int), GTy.viL (l ++ [t]) xs = t.vi (GTy.viL l xs)
  | [], xs => by simp [GTy.viL]
  | x :: r, xs => by simp only [List.cons_append, GTy.viL, GTy.viL_snoc t r]
theorem GTy.vsL_take {l : List GTy} {j : Nat} (h : j < l.length) (xs : List Int) : GTy.vsL (l.take (j + 1)) xs = (l[j]).vs (GTy.vsL (l.take j) xs) := by rw [take_snoc' l j h, GTy.vsL_snoc]
theorem GTy.viL_take {l : List GTy} {j : Nat} (h : j < l.length) (xs : List Int) : GTy.viL (l.take (j + 1)) xs = (l[j]).vi (GTy.viL (l.take j) xs) := by rw [take_snoc' l j h, GTy.viL_snoc]
mutual
theorem GTy.vs_len : ∀ (t : GTy) (xs : List Int), (t.vs xs).length ≤ xs.length + 1 + t.bulk
  | .mk op n s kids, xs => by
    rw [GTy.vs]
    have h := GTy.vsL_len kids (if op = 2 then ins n xs else xs)
    have h1 : (if op = 2 then ins n xs else xs).length ≤ xs.length + 1 := by split; exact ins_len n xs; omega
    have h2 := (GTy.mk op n s kids).bulk_eq
    simp only [GTy.kids] at h2
    omega
theorem GTy.vsL_len : ∀ (l : List GTy) (xs : List Int), (GTy.vsL l xs).length ≤ xs.length + bulkL GTy.bulk l
  | [], xs => by simp [GTy.vsL, bulkL]
  | t :: r, xs => by
    rw [GTy.vsL]
    have h1 := GTy.vs_len t xs
    have h2 := GTy.vsL_len r (t.vs xs)
    simp only [bulkL]; omega
end
mutual
theorem GTy.vi_len : ∀ (t : GTy) (xs : List Int), (t.vi xs).length ≤ xs.length + 1 + t.bulk
  | .mk op n s kids, xs => by
    rw [GTy.vi]
    have h := GTy.viL_len kids (if op = 2 ∧ xs.any (fun x => x == n) = false then xs ++ [n] else xs)
    have h1 : (if op = 2 ∧ xs.any (fun x => x == n) = false then xs ++ [n] else xs).length ≤ xs.length + 1 := by split <;> simp
    have h2 := (GTy.mk op n s kids).bulk_eq
    simp only [GTy.kids] at h2
    omega
theorem GTy.viL_len : ∀ (l : List GTy) (xs : List Int), (GTy.viL l xs).length ≤ xs.length + bulkL GTy.bulk l
  | [], xs => by simp [GTy.viL, bulkL]
  | t :: r, xs => by
    rw [GTy.viL]
    have h1 := GTy.vi_len t xs
    have h2 := GTy.viL_len r (t.vi xs)
    simp only [bulkL]; omega
end
/-- the one list ascends, the other holds each once; both hold the same -/
def SameAs (xs ys : List Int) : Prop := xs.Pairwise (· < ·) ∧ ys.Nodup ∧ ∀ a, a ∈ xs ↔ a ∈ ys
mutual
theorem GTy.same : ∀ (t : GTy) (xs ys : List Int), SameAs xs ys → SameAs (t.vs xs) (t.vi ys)
  | .mk op n s kids, xs, ys, h => by
    rw [GTy.vs, GTy.vi]
    refine GTy.sameL kids _ _ ?_
    by_cases ho : op = 2
    · rw [if_pos ho]
      by_cases ha : ys.any (fun x => x == n) = false
      · rw [if_pos ⟨ho, ha⟩]
        have hn : ¬ n ∈ ys := fun hm => by
          have := List.any_eq_false.1 ha n hm; simp at this
        refine ⟨ins_asc h.1, ?_, fun a => ?_⟩
        · rw [List.nodup_append]; exact ⟨h.2.1, by simp, fun a h3 b hb e => by simp at hb; subst hb; subst e; exact hn h3⟩
        · rw [ins_mem, h.2.2]; simp
      · rw [if_neg (fun e => ha e.2)]
        have hm : n ∈ ys := by
          have : ys.any (fun x => x == n) = true := by simpa using ha
          obtain ⟨x, hx, e⟩ := List.any_eq_true.1 this
          obtain rfl : x = n := by simpa using e
          exact hx
        refine ⟨ins_asc h.1, h.2.1, fun a => ?_⟩
        rw [ins_mem, h.2.2]
        constructor
        · rintro (h1 | rfl); exact h1; exact hm
        · exact .inl
    · rw [if_neg ho, if_neg (fun e => ho e.1)]; exact h
theorem GTy.sameL : ∀ (l : List GTy) (xs ys : List Int), SameAs xs ys → SameAs (GTy.vsL l xs) (GTy.viL l ys)
  | [], xs, ys, h => h
  | t :: r, xs, ys, h => by rw [GTy.vsL, GTy.viL]; exact GTy.sameL r _ _ (GTy.same t xs ys h)
end
theorem asc_one : ∀ {xs ys : List Int}, xs.Pairwise (· < ·) → ys.Pairwise (· < ·) → (∀ a, a ∈ xs ↔ a ∈ ys) → xs = ys
  | [], [], _, _, _ => rfl
  | [], y :: r, _, _, h => by have := (h y).2 (by simp); simp at this
  | x :: r, [], _, _, h => by have := (h x).1 (by simp); simp at this
  | x :: r, y :: q, hx, hy, h => by
    rw [List.pairwise_cons] at hx hy
    have e : x = y := by
      rcases List.mem_cons.1 ((h x).1 (by simp)) with e | e
      · exact e
      · rcases List.mem_cons.1 ((h y).2 (by simp)) with e2 | e2
        · exact e2.symm
        · have := hx.1 y e2; have := hy.1 x e; omega
    subst e
    congr 1
    refine asc_one hx.2 hy.2 fun a => ?_
    constructor
    · intro ha
      rcases List.mem_cons.1 ((h a).1 (by simp [ha])) with e | e
      · subst e; have := hx.1 _ ha; omega
      · exact e
    · intro ha
      rcases List.mem_cons.1 ((h a).2 (by simp [ha])) with e | e
      · subst e; have := hy.1 _ ha; omega
      · exact e
/-- sorted, they are the ascending ones -/
theorem SameAs.sorted {xs ys : List Int} (h : SameAs xs ys) : (ys.mergeSort fun x y => decide (x ≤ y)) = xs := by
  have hp := List.mergeSort_perm ys (fun x y => decide (x ≤ y))
  refine asc_one ?_ h.1 fun a => by rw [hp.mem_iff]; exact (h.2.2 a).symm
  have hs := List.pairwise_mergeSort (le := fun (x y : Int) => decide (x ≤ y)) (fun a b c h1 h2 => by simp at *; omega) (fun a b => by simp; omega) ys
  have hn : (ys.mergeSort fun x y => decide (x ≤ y)).Nodup := hp.nodup_iff.2 h.2.1
  have hand := List.Pairwise.and hs hn
  exact hand.imp fun h => by obtain ⟨a, b⟩ := h; simp at a; omega

/-- a list of one's own that a call hands back -/
def VTo (B : Nat) (xs : List Int) (w : World) (e : Ending) (w' : World) : Prop := ∃ A c, e = .returned (.slice A xs.length c) ∧ Gre w' B 3 1 (.slice A xs.length c) xs.length (xs.map (D.num .i64)) ∧ Below w.heap.size w w'
theorem bulkV_snoc {α : Type} (f : α → Nat) (x : α) : ∀ l : List α, bulkL f (l ++ [x]) = bulkL f l + f x + 1
  | [] => by simp [bulkL]; omega
  | y :: r => by simp only [List.cons_append, bulkL, bulkV_snoc f x r]; omega
theorem bulkV_next {α : Type} (f : α → Nat) {l : List α} {j : Nat} (h : j < l.length) : bulkL f (l.take (j + 1)) = bulkL f (l.take j) + f l[j] + 1 ∧ bulkL f (l.take (j + 1)) ≤ bulkL f l := by
  refine ⟨by rw [take_snoc' l j h, bulkV_snoc], ?_⟩
  have := bulkL_take_le f l (j + 1) (by omega)
  omega
/-- a list of one's own that a call lets grow -/
def VGr (B : Nat) (xs : List Int) (v : Value) (w : World) (e : Ending) (w' : World) : Prop := ∃ A c, e = .returned (.slice A xs.length c) ∧ Gre w' B 3 1 (.slice A xs.length c) xs.length (xs.map (D.num .i64)) ∧ Gr w w' v (.slice A xs.length c)
theorem any_flipV (l : List Int) (n : Int) : (l.any fun x => n == x) = l.any fun x => x == n := by
  congr 1; funext x; rw [Bool.eq_iff_iff, beq_iff_eq, beq_iff_eq]; exact eq_comm
end Go.Proofs.Ytnpkmebnmklcfaa

/- Is a var in a type: the reference's walk, and that it is so where the list of vars has it. Conditions: none. -/
namespace Go.Proofs.Ytnpkmebnmklcfaa
open Go.RowKit
set_option linter.unusedVariables false
set_option linter.unusedSimpArgs false
set_option maxHeartbeats 1000000

theorem noneTo_any {α : Type} {p : α → Bool} {l : List α} (h : noneTo p l l.length) : l.any p = false := by
  rw [List.any_eq_false]
  intro x hx
  obtain ⟨i, hi, rfl⟩ := List.getElem_of_mem hx
  rw [h i hi hi]; simp
mutual
def GTy.has (n : Int) : GTy → Bool | .mk op m s kids => (op == 2 && m == n) || GTy.hasL n kids
def GTy.hasL (n : Int) : List GTy → Bool | [] => false | t :: r => t.has n || GTy.hasL n r
end
theorem GTy.has_eq (n : Int) (t : GTy) : t.has n = ((t.op == 2 && t.n == n) || GTy.hasL n t.kids) := by cases t; rw [GTy.has]; rfl
theorem GTy.hasL_any (n : Int) : ∀ l : List GTy, GTy.hasL n l = l.any (fun t => t.has n)
  | [] => by rw [GTy.hasL]; rfl
  | t :: r => by rw [GTy.hasL, GTy.hasL_any n r]; rfl
mutual
theorem GTy.mem_vs (n : Int) : ∀ (t : GTy) (xs : List Int), n ∈ t.vs xs ↔ n ∈ xs ∨ t.has n = true
  | .mk op m s kids, xs => by
    rw [GTy.vs, GTy.mem_vsL n kids, GTy.has]
    by_cases h : op = 2
    · rw [if_pos h, ins_mem, or_assoc]; simp only [h, beq_self_eq_true, Bool.true_and, Bool.or_eq_true, beq_iff_eq]; exact or_congr Iff.rfl (or_congr ⟨Eq.symm, Eq.symm⟩ Iff.rfl)
    · rw [if_neg h]; simp [h]
theorem GTy.mem_vsL (n : Int) : ∀ (l : List GTy) (xs : List Int), n ∈ GTy.vsL l xs ↔ n ∈ xs ∨ GTy.hasL n l = true
  | [], xs => by rw [GTy.vsL, GTy.hasL]; simp
  | t :: r, xs => by rw [GTy.vsL, GTy.mem_vsL n r, GTy.mem_vs n t, GTy.hasL]; simp [or_assoc]
end
theorem GTy.has_vs (n : Int) (t : GTy) : t.has n = true ↔ n ∈ t.vs [] := by rw [GTy.mem_vs]; simp

end Go.Proofs.Ytnpkmebnmklcfaa

/- Coverage by rows of patterns: what both compute, and rows in memory (no program in sight). Conditions: none. -/
namespace Go.Proofs.Ytnpkmebnmklcfaa
open Go.RowKit
set_option linter.unusedVariables false
set_option linter.unusedSimpArgs false

/-- anything -/
def anyN : GNode := .mk 17 0 ByteArray.empty ByteArray.empty []
def isAnyB (p : GNode) : Bool := p.op != 20 && p.op != 19
def alikeB (q p : GNode) : Bool := q.op == p.op && q.s.toList == p.s.toList && q.n == p.n && q.kids.length == p.kids.length
def into1 (p : GNode) : List GNode → Option (List GNode)
  | [] => none
  | q :: t => if isAnyB q = true then some (List.replicate p.kids.length anyN ++ t) else if alikeB q p = true then some (q.kids ++ t) else none
def intoR (p : GNode) (rows : List (List GNode)) : List (List GNode) := rows.filterMap (into1 p)
def rest1 : List GNode → Option (List GNode)
  | [] => none
  | q :: t => if isAnyB q = true then some t else none
def restR (rows : List (List GNode)) : List (List GNode) := rows.filterMap rest1
def hd (r : List GNode) : GNode := r.headD anyN
def headIs (s : ByteArray) (r : List GNode) : Bool := (hd r).op == 20 && (hd r).s.toList == s.toList
def dataStep (ds : List GData) (a : Int) (r : List GNode) : Int := if a < 0 ∧ (hd r).op = 20 then (conI (conOf (hd r).s ds 0)).1 else a
def dataAt (ds : List GData) (rows : List (List GNode)) : Int := rows.foldl (dataStep ds) (-1)
def conN (c : GCon) : GNode := .mk 20 0 c.name ByteArray.empty (List.replicate c.args.length anyN)
def allIn (rows : List (List GNode)) (cs : List GCon) : Bool := cs.all fun c => rows.any (headIs c.name)
def allR (ds : List GData) (rows : List (List GNode)) : Option (List GNode) :=
  if dataAt ds rows < 0 then none else match ds[(dataAt ds rows).toNat]? with
    | none => none
    | some d => if allIn rows d.cons = true then some (d.cons.map conN) else none
def useAll (g : Nat → List (List GNode) → List GNode → Bool × Nat) (rows : List (List GNode)) (t : List GNode) : List GNode → Nat → Bool × Nat
  | [], s => (false, s)
  | a :: r, s => if (g s (intoR a rows) (List.replicate a.kids.length anyN ++ t)).1 = true then g s (intoR a rows) (List.replicate a.kids.length anyN ++ t) else useAll g rows t r (g s (intoR a rows) (List.replicate a.kids.length anyN ++ t)).2
def useF (ds : List GData) : Nat → Nat → List (List GNode) → List GNode → Bool × Nat
  | 0, s, _, _ => (true, s + 1)
  | f + 1, s, rows, row => if 4000 < s + 1 then (true, s + 1) else match row with
    | [] => (rows.isEmpty, s + 1)
    | p :: t => if isAnyB p = true then (match allR ds rows with
        | none => useF ds f (s + 1) (restR rows) t
        | some all => useAll (useF ds f) rows t all (s + 1))
      else useF ds f (s + 1) (intoR p rows) (p.kids ++ t)
/-- is a row useful behind others -/
def usefulV (ds : List GData) (rows : List (List GNode)) (row : List GNode) : Bool := (rows.all fun r => r.length == row.length) && (useF ds 4001 0 rows row).1
def patOf (a : GNode) : GNode := hd a.kids
def missingV (ds : List GData) (alts : List GNode) : Bool := usefulV ds (alts.map fun a => [patOf a]) [anyN]
def idleV (ds : List GData) (alts : List GNode) : Int := idxI (fun i => !usefulV ds ((alts.take i).map fun a => [patOf a]) [patOf (alts.getD i anyN)]) (List.range alts.length)

theorem into1_cons (p q : GNode) (t : List GNode) : into1 p (q :: t) = if isAnyB q = true then some (List.replicate p.kids.length anyN ++ t) else if alikeB q p = true then some (q.kids ++ t) else none := rfl
theorem rest1_cons (q : GNode) (t : List GNode) : rest1 (q :: t) = if isAnyB q = true then some t else none := rfl
theorem dataAt_snoc (ds : List GData) {rows : List (List GNode)} {j : Nat} (h : j < rows.length) : dataAt ds (rows.take (j + 1)) = dataStep ds (dataAt ds (rows.take j)) rows[j] := by
  unfold dataAt; rw [take_snoc' rows j h, List.foldl_append]; rfl
theorem dataStep_stay {ds : List GData} {a : Int} (h : 0 ≤ a) (r : List GNode) : dataStep ds a r = a := by unfold dataStep; rw [if_neg (fun e => by omega)]
theorem foldl_stay {ds : List GData} {a : Int} (h : 0 ≤ a) : ∀ l : List (List GNode), l.foldl (dataStep ds) a = a
  | [] => rfl
  | r :: t => by rw [List.foldl_cons, dataStep_stay h, foldl_stay h t]
theorem dataAt_stay {ds : List GData} {rows : List (List GNode)} {j : Nat} (h : 0 ≤ dataAt ds (rows.take j)) : dataAt ds rows = dataAt ds (rows.take j) := by
  conv => lhs; rw [← List.take_append_drop j rows]
  unfold dataAt at h ⊢
  rw [List.foldl_append, foldl_stay h]

/-- sizes: no pattern's part is bigger than M -/
def nodeB (M : Nat) (x : GNode) : Prop := x.bulk ≤ M
theorem nodeB.kids {M : Nat} {x : GNode} (h : nodeB M x) : ∀ k ∈ x.kids, nodeB M k := fun k hk => by
  obtain ⟨i, hi, rfl⟩ := List.getElem_of_mem hk
  have h1 := (bulkV_next GNode.bulk hi).2
  have h2 := (bulkV_next GNode.bulk hi).1
  have h3 := x.bulk_eq
  unfold nodeB at *
  omega
theorem nodeB.len {M : Nat} {x : GNode} (h : nodeB M x) : x.kids.length ≤ M := by
  have h1 := bulkL_len GNode.bulk x.kids
  have h3 := x.bulk_eq
  unfold nodeB at h
  omega
theorem anyN_bulk : anyN.bulk = 0 := by rw [GNode.bulk_eq]; rfl
theorem rep_bulk : ∀ n : Nat, bulkL GNode.bulk (List.replicate n anyN) = n
  | 0 => rfl
  | n + 1 => by rw [List.replicate_succ]; simp only [bulkL, anyN_bulk, rep_bulk n]; omega
theorem anyN_B (M : Nat) : nodeB M anyN := by unfold nodeB; rw [anyN_bulk]; omega
/-- rows of one length, their parts bounded -/
def RowsB (M n : Nat) (rows : List (List GNode)) : Prop := ∀ r ∈ rows, r.length = n ∧ ∀ x ∈ r, nodeB M x
theorem into1_len {M n : Nat} {p q : GNode} {t r : List GNode} (h : into1 p (q :: t) = some r) (hl : (q :: t).length = n + 1) : r.length = p.kids.length + n := by
  rw [into1_cons] at h
  simp only [List.length_cons, Nat.add_right_cancel_iff] at hl
  split at h
  · simp only [Option.some.injEq] at h; subst h; simp [hl]
  · split at h
    · rename_i e
      unfold alikeB at e
      simp only [Bool.and_eq_true, beq_iff_eq] at e
      simp only [Option.some.injEq] at h; subst h; simp [hl, e.2]
    · cases h
theorem RowsB.into {M n : Nat} {rows : List (List GNode)} (h : RowsB M (n + 1) rows) (p : GNode) : RowsB M (p.kids.length + n) (intoR p rows) := fun r hr => by
  unfold intoR at hr
  obtain ⟨r0, h0, e⟩ := List.mem_filterMap.1 hr
  obtain ⟨h1, h2⟩ := h r0 h0
  obtain ⟨q, t, rfl⟩ := List.exists_cons_of_length_pos (l := r0) (by omega)
  refine ⟨into1_len (M := M) e h1, fun x hx => ?_⟩
  rw [into1_cons] at e
  split at e
  · simp only [Option.some.injEq] at e; subst e
    rcases List.mem_append.1 hx with hx | hx
    · rw [(List.mem_replicate.1 hx).2]; exact anyN_B M
    · exact h2 x (by simp [hx])
  · split at e
    · simp only [Option.some.injEq] at e; subst e
      rcases List.mem_append.1 hx with hx | hx
      · exact (h2 q (by simp)).kids x hx
      · exact h2 x (by simp [hx])
    · cases e
theorem RowsB.rest {M n : Nat} {rows : List (List GNode)} (h : RowsB M (n + 1) rows) : RowsB M n (restR rows) := fun r hr => by
  unfold restR at hr
  obtain ⟨r0, h0, e⟩ := List.mem_filterMap.1 hr
  obtain ⟨h1, h2⟩ := h r0 h0
  obtain ⟨q, t, rfl⟩ := List.exists_cons_of_length_pos (l := r0) (by omega)
  rw [rest1_cons] at e
  split at e
  · simp only [Option.some.injEq] at e; subst e
    exact ⟨by simpa using h1, fun x hx => h2 x (by simp [hx])⟩
  · cases e

/-- a row as data -/
def rowD (r : List GNode) : D := .sl 5 (r.map GNode.toD)
theorem rowD_elem {w : World} {S : Nat → Prop} {A : Option Addr} {c : Nat} {rows : List (List GNode)} (h : Sl w S 1 A c (rows.map rowD)) (i : Nat) (hi : i < rows.length) :
    ∃ b off A1 c1, A = some ⟨b, off, none⟩ ∧ S b ∧ w.cell? ⟨b, off + i, none⟩ = some (.slice A1 rows[i].length c1) ∧ Sl w S 5 A1 c1 (rows[i].map GNode.toD) := by
  obtain ⟨b, off, cs, e, hb, hl, hc, hr⟩ := Sl.get h i (by simpa using hi)
  rw [List.getElem_map] at hr
  obtain ⟨A1, c1, rfl, h1⟩ := D.rd_sl.1 hr
  have := hc 0 _ rfl
  simp only [Nat.mul_one, Nat.add_zero, List.length_map] at this
  exact ⟨b, off, A1, c1, e, hb, this, h1⟩
/-- the first of a row, and the rest -/
theorem row_head {w : World} {S : Nat → Prop} {A : Option Addr} {c : Nat} {q : GNode} {t : List GNode} (h : Sl w S 5 A c ((q :: t).map GNode.toD)) :
    ∃ b off A1 c1, A = some ⟨b, off, none⟩ ∧ S b ∧ t.length + 1 ≤ c ∧ c ≤ maxLen ∧ w.cell? ⟨b, off, none⟩ = some (.int .i64 q.op) ∧ w.cell? ⟨b, off + 1, none⟩ = some (.int .i64 q.n) ∧ w.cell? ⟨b, off + 2, none⟩ = some (.string q.s) ∧ w.cell? ⟨b, off + 3, none⟩ = some (.string q.t) ∧ w.cell? ⟨b, off + 4, none⟩ = some (.slice A1 q.kids.length c1) ∧ GNode.At w S A1 c1 q ∧
      Sl w S 5 (some ⟨b, off + 5, none⟩) (c - 1) (t.map GNode.toD) ∧ (c = 1 → Sl w S 5 (some ⟨b, off, none⟩) 0 (t.map GNode.toD)) := by
  obtain ⟨b, off, A1, c1, rfl, hS, h0, h1, h2, h3, h4, hat⟩ := GNode.elem h 0 (by simp)
  have hd := Sl.drop h 1 (by simp)
  have hlc := h.1
  simp only [List.map_cons, List.length_cons, List.length_map] at hlc
  simp only [Nat.zero_mul, Nat.add_zero, List.getElem_cons_zero, Nat.one_mul, List.map_cons, List.drop_succ_cons, List.drop_zero] at h0 h1 h2 h3 h4 hat hd
  exact ⟨b, off, A1, c1, rfl, hS, hlc, h.2.1, h0, h1, h2, h3, h4, hat, hd, fun e => by
    have : t = [] := List.eq_nil_of_length_eq_zero (by omega)
    subst this; exact Sl.nil (Nat.zero_le _)⟩
/-- one datum in a row of its own -/
theorem slOne {w : World} {S : Nat → Prop} {g size : Nat} {T : TypeId} {cs : List Value} {d : D} (hr : Row w g T cs.toArray) (hd : d.rd w S cs) (hl : cs.length = size) (hg : S g) : Sl w S size (some ⟨g, 0, none⟩) 1 [d] := by
  refine ⟨by simp, by unfold maxLen; omega, .inr ⟨g, 0, rfl, hg, ?_⟩⟩
  refine rdC_row [d] cs 0 (fun j v hj => ?_) ?_
  · rw [Nat.zero_add, hr.cell]; simpa using hj
  · simp only [rdC]; exact ⟨cs, [], by simp, hl, hd, rfl⟩
theorem slOneRow {w : World} {S : Nat → Prop} {g : Nat} {T : TypeId} {A : Option Addr} {c : Nat} {r : List GNode} (hr : Row w g T #[.slice A r.length c]) (hs : Sl w S 5 A c (r.map GNode.toD)) (hg : S g) : Sl w S 1 (some ⟨g, 0, none⟩) 1 ([r].map rowD) :=
  slOne (cs := [.slice A r.length c]) hr (by unfold rowD; rw [D.rd_sl]; exact ⟨A, c, by simp, hs⟩) rfl hg
theorem anyN_rd (w : World) (S : Nat → Prop) (c : Nat) (hc : c ≤ maxLen) (A : Option Addr) : anyN.toD.rd w S [.int .i64 17, .int .i64 0, .string ByteArray.empty, .string ByteArray.empty, .slice A 0 c] :=
  GNode.rd_mk (t := anyN) ⟨by decide, by decide, by decide, by decide, Sl.nil hc⟩

/-- where data may lie: what is there, but not in what X bars -/
def Lx (X : Nat → Prop) (w : World) : Nat → Prop := fun b => b < w.heap.size ∧ X b
theorem Sl.lx {X : Nat → Prop} {w w' : World} {size : Nat} {A : Option Addr} {c : Nat} {xs : List D} (h : Sl w (Lx X w) size A c xs) (hb : Below w.heap.size w w') : Sl w' (Lx X w') size A c xs := h.keep fun b hb' => ⟨⟨Nat.lt_of_lt_of_le hb'.1 hb.size, hb'.2⟩, hb.block b hb'.1⟩
theorem Sl.lt {X : Nat → Prop} {w : World} {size : Nat} {A : Option Addr} {c : Nat} {xs : List D} (h : Sl w (Lx X w) size A c xs) : Sl w (Lt w.heap.size) size A c xs := h.keep fun b hb => ⟨hb.1, rfl⟩
theorem GNode.At.lx {X : Nat → Prop} {w w' : World} {A : Option Addr} {c : Nat} {t : GNode} (h : GNode.At w (Lx X w) A c t) (hb : Below w.heap.size w w') : GNode.At w' (Lx X w') A c t := h.keep fun b hb' => ⟨⟨Nat.lt_of_lt_of_le hb'.1 hb.size, hb'.2⟩, hb.block b hb'.1⟩
/-- a list of patterns that a call hands back; rows of them -/
def LTo (X : Nat → Prop) (xs : List GNode) (w : World) (e : Ending) (w' : World) : Prop := ∃ A c, e = .returned (.slice A xs.length c) ∧ Sl w' (Lx X w') 5 A c (xs.map GNode.toD) ∧ Below w.heap.size w w'
def RTo (X : Nat → Prop) (rows : List (List GNode)) (w : World) (e : Ending) (w' : World) : Prop := ∃ A c, e = .returned (.slice A rows.length c) ∧ Sl w' (Lx X w') 1 A c (rows.map rowD) ∧ Below w.heap.size w w'
end Go.Proofs.Ytnpkmebnmklcfaa

/- Trees of cases: what both make of rows of what is still to be asked (no program in sight). Conditions: none. -/
namespace Go.Proofs.Ytnpkmebnmklcfaa
open Go.RowKit
set_option linter.unusedVariables false
set_option linter.unusedSimpArgs false

/-- no more than asks that ask -/
def bareA (asks : List GAsk) : List GAsk := asks.filter fun a => !isAnyB a.pat
/-- where a path is asked -/
def findA (asks : List GAsk) (path : List Int) : Int := idxI (fun a : GAsk => a.path == path) asks
def sameP (a b : GNode) : Bool := a.op == b.op && (a.s.toList == b.s.toList && a.n == b.n)
/-- the kids of a pattern as asks, from the i-th on -/
def kidsA (path : List Int) : Nat → List GNode → List GAsk
  | _, [] => []
  | i, k :: r => ⟨path ++ [(i : Int)], k⟩ :: kidsA path (i + 1) r
/-- a row where an ask holds -/
def yes1 (ask : GAsk) (r : GTrow) : Option GTrow :=
  if findA r.asks ask.path < 0 then some r
  else match r.asks[(findA r.asks ask.path).toNat]? with
    | some a => if sameP a.pat ask.pat = true then some ⟨r.alt, r.asks.take (findA r.asks ask.path).toNat ++ bareA (kidsA ask.path 0 a.pat.kids) ++ r.asks.drop ((findA r.asks ask.path).toNat + 1)⟩ else none
    | none => none
def yesR (ask : GAsk) (rows : List GTrow) : List GTrow := rows.filterMap (yes1 ask)
/-- a row that may fit where it does not hold -/
def no1 (ask : GAsk) (r : GTrow) : Bool :=
  if findA r.asks ask.path < 0 then true
  else match r.asks[(findA r.asks ask.path).toNat]? with
    | some a => !sameP a.pat ask.pat
    | none => true
def noR (ask : GAsk) (rows : List GTrow) : List GTrow := rows.filter (no1 ask)
def zeroT : GTree := .mk 0 0 [] ⟨#[]⟩ []
/-- the node of an ask -/
def askT (a : GAsk) (kids : List GTree) : GTree := if a.pat.op = 20 then .mk 3 0 a.path a.pat.s kids else .mk 4 a.pat.n a.path ⟨#[]⟩ kids
/-- one node of the tree of rows; many: how many have been begun -/
def growB (g : Nat → List GTrow → GTree × Nat) (many : Nat) (rows : List GTrow) : GTree × Nat :=
  if 300 < many + 1 then (zeroT, many + 1)
  else match rows with
    | [] => (.mk 2 0 [] ⟨#[]⟩ [], many + 1)
    | r :: rest => match r.asks with
      | [] => (.mk 1 r.alt [] ⟨#[]⟩ [], many + 1)
      | a :: _ => (askT a [(g (many + 1) (yesR a (r :: rest))).1, (g (g (many + 1) (yesR a (r :: rest))).2 (noR a (r :: rest))).1], (g (g (many + 1) (yesR a (r :: rest))).2 (noR a (r :: rest))).2)
def growV : Nat → Nat → List GTrow → GTree × Nat
  | 0, many, _ => (zeroT, many + 1)
  | k + 1, many, rows => growB (growV k) many rows
theorem growB_less {g : Nat → List GTrow → GTree × Nat} (hg : ∀ many rows, many < (g many rows).2) (many : Nat) (rows : List GTrow) : many < (growB g many rows).2 := by
  unfold growB
  split
  · exact Nat.lt_succ_self _
  · split
    · exact Nat.lt_succ_self _
    · split
      · exact Nat.lt_succ_self _
      · rename_i r rest _ a t ha
        have h1 := hg (many + 1) (yesR a (r :: rest))
        have h2 := hg (g (many + 1) (yesR a (r :: rest))).2 (noR a (r :: rest))
        show many < (g (g (many + 1) (yesR a (r :: rest))).2 (noR a (r :: rest))).2
        omega
theorem growV_less : ∀ (k many : Nat) (rows : List GTrow), many < (growV k many rows).2
  | 0, many, _ => Nat.lt_succ_self _
  | k + 1, many, rows => growB_less (growV_less k) many rows
theorem growB_same {g g' : Nat → List GTrow → GTree × Nat} {many : Nat} {rows : List GTrow} (hl : ∀ many rows, many < (g many rows).2) (h : ∀ m rows, many < m → m ≤ 300 + 1 + m → g' m rows = g m rows) : growB g' many rows = growB g many rows := by
  unfold growB
  split
  · rfl
  · split
    · rfl
    · split
      · rfl
      · rename_i r rest _ a t ha
        have h1 := h (many + 1) (yesR a (r :: rest)) (Nat.lt_succ_self _) (by omega)
        rw [h1]
        have h2 := hl (many + 1) (yesR a (r :: rest))
        rw [h _ (noR a (r :: rest)) (by omega) (by omega)]
/-- so much fuel is enough -/
theorem growV_fuel : ∀ (k j many : Nat) (rows : List GTrow), 300 < many + k → growV (k + j) many rows = growV k many rows
  | 0, 0, many, rows, h => rfl
  | 0, j + 1, many, rows, h => by
    rw [Nat.zero_add]
    show growB (growV j) many rows = (zeroT, many + 1)
    unfold growB
    rw [if_pos (by omega)]
  | k + 1, j, many, rows, h => by
    rw [show k + 1 + j = (k + j) + 1 by omega]
    show growB (growV (k + j)) many rows = growB (growV k) many rows
    exact growB_same (growV_less k) fun m rows hm _ => growV_fuel k j m rows (by omega)
end Go.Proofs.Ytnpkmebnmklcfaa

/- Trees of cases: paths and rows of asks, in the reference. Conditions: the sizes are bounded. -/
namespace Go.Proofs.Ytnpkmebnmklcfaa
open Go.RowKit
set_option linter.unusedVariables false
set_option linter.unusedSimpArgs false
set_option maxHeartbeats 1000000

def AnyB : Nat → Prop := fun _ => True
theorem Sl.any {w : World} {B size : Nat} {A : Option Addr} {c : Nat} {xs : List D} (h : Sl w (Lt B) size A c xs) {w' : World} (hb : Below B w w') (hB : B ≤ w'.heap.size) {v : Value} (hv : ∀ g, v.ownBlock = some g → B ≤ g) : Sl w' (fun b => b < w'.heap.size ∧ v.ownBlock ≠ some b ∧ AnyB b) size A c xs :=
  h.keep fun b hb2 => ⟨⟨Nat.lt_of_lt_of_le hb2 hB, fun e => by have := hv b e; have h3 : b < B := hb2; omega, trivial⟩, hb.block b hb2⟩
theorem own_ge {B g n c : Nat} (hg : (Value.slice (some ⟨B, 0, none⟩) n c).ownBlock = some g) : B ≤ g := by
  have e : B = g := by simpa [Value.ownBlock] using hg
  omega
/-- ints that are handed back -/
def ToInts (l : List Int) (w : World) (e : Ending) (w' : World) : Prop := ∃ A1 c1, e = .returned (.slice A1 l.length c1) ∧ Sl w' (Btw w.heap.size w'.heap.size) 1 A1 c1 (l.map (D.num .i64)) ∧ Below w.heap.size w w'
/-- numbers lie in no block -/
theorem rdC_ints {w w' : World} {S S' : Nat → Prop} : ∀ (l : List Int) (cs : List Value), rdC w 1 S (l.map (D.num .i64)) cs → rdC w' 1 S' (l.map (D.num .i64)) cs
  | [], _, h => h
  | d :: r, cs, h => by
    simp only [List.map_cons, rdC] at h ⊢
    obtain ⟨c1, c2, e, hl, h1, h2⟩ := h
    exact ⟨c1, c2, e, hl, D.rd_num.2 (D.rd_num.1 h1), rdC_ints r c2 h2⟩
theorem Grx.slInts {X : Nat → Prop} {w : World} {B : Nat} {e : TypeId} {v : Value} {n : Nat} {l : List Int} (h : Grx X w B e 1 v n (l.map (D.num .i64))) : ∃ A c, v = .slice A n c ∧ Sl w (Btw B w.heap.size) 1 A c (l.map (D.num .i64)) := by
  have hlt := h.own
  obtain ⟨h1, cs, h2, h4⟩ := h
  rw [List.length_map] at h1
  rcases h2.2 with ⟨rfl, h⟩ | ⟨g, cap, cur, rfl, a1, a2, a3, a4, a5, a6⟩
  · have : l = [] := List.eq_nil_of_length_eq_zero (by omega)
    subst this
    exact ⟨none, 0, by rw [h], Sl.nil (by unfold maxLen; omega)⟩
  · refine ⟨_, cap, rfl, by rw [List.length_map]; omega, a4, .inr ⟨g, 0, rfl, hlt g rfl, ?_⟩⟩
    refine rdC_row (l.map (D.num .i64)) cs 0 (fun j v hj => ?_) (rdC_ints l cs h4)
    rw [Nat.zero_add, Row.cell (t := e) (cs := cur) a2]
    rw [← a6, List.getElem?_take] at hj
    split at hj
    · simpa using hj
    · cases hj

set_option maxRecDepth 20000 in
theorem specDown (path : List Int) (A : Option Addr) (c : Nat) (k : Int) (w : World) (hp : path.length ≤ 1048576) (hk : (Lit.int .i64 k).wf = true) (hs : Sl w (Lt w.heap.size) 1 A c (path.map (D.num .i64))) :
    Calls Try.prog 58 #[.slice A path.length c, .int .i64 k] w (ToInts (path ++ [k]) w) := by
  have S0 := Lib.hid hs
  have HK := Lib.hid hk
  obtain ⟨w0, e0⟩ : ∃ w0, w0 = w.alloc (.cells #[] 3) := ⟨_, rfl⟩
  have B0 := Lib.hid (show Below w.heap.size w w0 by rw [e0]; exact (Below.refl _ _).alloc (Nat.le_refl _) _)
  have G0 := Lib.hid (show Grx AnyB w0 w.heap.size 3 1 (.slice (some ⟨w.heap.size, 0, none⟩) 0 0) 0 [] from Grx.made (by rw [e0]; exact Row.new' _ _ _ rfl) (Nat.le_refl _))
  have EQ := Lib.hid e0
  clear hs hk e0
  go_enter Try.func58, Try.ntmps58
  have S1 := Lib.hid (S0.out.any B0.out B0.out.size (v := .slice (some ⟨w.heap.size, 0, none⟩) 0 0) (fun g hg => own_ge hg))
  go_wp2_with (first
    | (at_builtin
       rw [← EQ.out]
       refine wpList_append_X (X := AnyB) w0 rfl (.tmp 6) (.tmp 7) 26 rfl 3 (.int .i64 0) 1 8 Try.underlying26 (by kernel_rfl) rfl (by omega) w.heap.size (.slice (some ⟨w.heap.size, 0, none⟩) 0 0) 0 _ G0.out A c path.length _ (by simp) S1.out B0.out.size (by unfold maxLen; omega) (by omega) rfl rfl ?_
       intro A4 c4 w4 G4 hGr4
       have HG := Lib.hid (show Grx AnyB w4 w.heap.size 3 1 (.slice A4 path.length c4) path.length (path.map (D.num .i64)) by simpa using G4)
       have HO := Lib.hid (fun g hg => (HG.out.own g hg))
       have B4 := Lib.hid (B0.out.trans (hGr4.below B0.out.size (fun g hg => (G0.out.own g hg).1)))
       have HE := Lib.hid (show Value.slice A4 (0 + path.length) c4 = .slice A4 path.length c4 by rw [Nat.zero_add])
       clear G4 hGr4
       rw [HE.out]
       have E5 := Lib.hid (show Below w4.heap.size w4 (w4.alloc (.cells #[.int .i64 k] 3)) from (Below.refl _ _).alloc (Nat.le_refl _) _)
       have G5 := Lib.hid (HG.out.below E5.out)
       have B5 := Lib.hid (B4.out.trans (E5.out.mono B4.out.size))
       have S5 := Lib.hid (show Sl (w4.alloc (.cells #[.int .i64 k] 3)) (fun b => b < (w4.alloc (.cells #[.int .i64 k] 3)).heap.size ∧ (Value.slice A4 path.length c4).ownBlock ≠ some b ∧ AnyB b) 1 (some ⟨w4.heap.size, 0, none⟩) 1 [D.num .i64 k] from
         slOne (T := 3) (cs := [.int .i64 k]) (Row.new' _ _ _ rfl) (D.rd_num.2 ⟨rfl, HK.out⟩) rfl ⟨by simp, fun e => by have := (HO.out _ e).2; omega, trivial⟩))
    | (at_builtin
       refine wpList_append_X (X := AnyB) (w4.alloc (.cells #[.int .i64 k] 3)) rfl (.tmp 9) (.tmp 11) 26 rfl 3 (.int .i64 0) 1 8 Try.underlying26 (by kernel_rfl) rfl (by omega) w.heap.size (.slice A4 path.length c4) path.length _ G5.out (some ⟨w4.heap.size, 0, none⟩) 1 1 _ rfl S5.out B5.out.size (by unfold maxLen; omega) (by omega) rfl rfl ?_
       intro A6 c6 w6 G6 hGr6
       have B6 := Lib.hid (B5.out.trans (hGr6.below B5.out.size (fun g hg => (HO.out g hg).1)))
       have HF := Lib.hid (show ToInts (path ++ [k]) w (.returned (.slice A6 (path.length + 1) c6)) w6 by
         obtain ⟨A7, c7, e7, S7⟩ := Grx.slInts (l := path ++ [k]) (by rw [List.map_append]; exact G6)
         exact ⟨A7, c7, by rw [List.length_append]; exact congrArg Ending.returned e7, S7, B6.out⟩)
       clear G6 hGr6))
  go_ret
  exact Hid.out (by assumption)
theorem specPathEq (a b : List Int) (A : Option Addr) (c : Nat) (B : Option Addr) (d : Nat) (w : World) (ha : Sl w (Lt w.heap.size) 1 A c (a.map (D.num .i64))) (hb : Sl w (Lt w.heap.size) 1 B d (b.map (D.num .i64))) :
    Calls Try.prog 73 #[.slice A a.length c, .slice B b.length d] w fun e w' => e = .returned (.bool (a == b)) ∧ Below w.heap.size w w' := by
  have SA := Lib.hid ha
  have SB := Lib.hid hb
  have hla : a.length ≤ 9223372036854775807 := by simpa using ha.len
  have hlb : b.length ≤ 9223372036854775807 := by simpa using hb.len
  clear ha hb
  go_enter Try.func73, Try.ntmps73
  go_wp2_with fail
  go_loopw [5] (fun i wr => ∃ (j : Nat), j ≤ a.length ∧ j ≤ b.length ∧ i = .int .i64 j ∧ Hid (∀ i, (h1 : i < a.length) → (h2 : i < b.length) → i < j → a[i] = b[i]) ∧ Below w.heap.size w wr) (fun i _ => a.length - (intOf i).toNat)
  case atStart => exact ⟨0, by omega, by omega, by go_num, Lib.hid (fun i _ _ h => by omega), Below.refl _ _⟩
  case round =>
    obtain ⟨j, hj, hj2, rfl, HE, hbl⟩ := hrel
    by_cases hlt : j < a.length
    · have d1 : decide ((j : Int) < (a.length : Int)) = true := decide_eq_true (by omega)
      by_cases hlt2 : j < b.length
      · have d2 : decide ((j : Int) < (b.length : Int)) = true := decide_eq_true (by omega)
        obtain ⟨b1, f1, rfl, hS1, g1, _⟩ := int_elem (SA.out.below hbl (Nat.le_refl _)) j hlt
        obtain ⟨b2, f2, rfl, hS2, g2, _⟩ := int_elem (SB.out.below hbl (Nat.le_refl _)) j hlt2
        cases he : (a[j] == b[j])
        · have he2 : (a[j] != b[j]) = true := by rw [bne, he]; rfl
          have HV := Lib.hid (show (a == b) = false by
            rw [beq_eq_false_iff_ne]
            intro e
            rw [beq_eq_false_iff_ne] at he
            exact he (by simp [e]))
          go_wp2_with fail
          go_quiet (fail)
          go_wp2_with fail
          go_ret
          exact ⟨ret_bool HV.out.symm, hbl.os, hbl.tape, hbl.output, hbl.size, hbl.block⟩
        · have he2 : (a[j] != b[j]) = false := by rw [bne, he]; rfl
          have HE2 := Lib.hid (fun i (h1 : i < a.length) (h2 : i < b.length) (hij : i < j + 1) => show a[i] = b[i] by
            by_cases hh : i < j
            · exact HE.out i h1 h2 hh
            · obtain rfl : i = j := by omega
              simpa using he)
          go_wp2_with fail
          go_quiet (fail)
          go_wp2_with fail
          go_roundw
          case rel => exact ⟨j + 1, by omega, by omega, by go_num, HE2, ⟨hbl.os, hbl.tape, hbl.output, hbl.size, hbl.block⟩⟩
          case measure => simp [intOf]; omega
      · have d2 : decide ((j : Int) < (b.length : Int)) = false := decide_eq_false (by omega)
        have d3 : ((a.length : Int) == (b.length : Int)) = false := by rw [beq_eq_false_iff_ne]; omega
        have HV := Lib.hid (show (a == b) = false by
          rw [beq_eq_false_iff_ne]
          intro e
          rw [e] at hlt
          omega)
        go_wp2_with fail
        go_ret
        exact ⟨ret_bool HV.out.symm, hbl⟩
    · have d1 : decide ((j : Int) < (a.length : Int)) = false := decide_eq_false (by omega)
      by_cases hll : a.length = b.length
      · have d3 : ((a.length : Int) == (b.length : Int)) = true := by rw [beq_iff_eq]; omega
        have HV := Lib.hid (show (a == b) = true by
          rw [beq_iff_eq]
          exact List.ext_getElem hll fun i h1 h2 => HE.out i h1 h2 (by omega))
        have HL := Lib.hid hll
        clear hll
        go_wp2_with fail
        go_ret
        exact ⟨ret_bool HV.out.symm, hbl⟩
      · have d3 : ((a.length : Int) == (b.length : Int)) = false := by rw [beq_eq_false_iff_ne]; omega
        have HV := Lib.hid (show (a == b) = false by
          rw [beq_eq_false_iff_ne]
          intro e
          exact hll (by rw [e]))
        go_wp2_with fail
        go_ret
        exact ⟨ret_bool HV.out.symm, hbl⟩
end Go.Proofs.Ytnpkmebnmklcfaa
