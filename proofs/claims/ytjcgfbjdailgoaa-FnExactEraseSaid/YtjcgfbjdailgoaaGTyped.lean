/- The data of the Go struct Typed: how it lies in memory (no program in sight). Conditions: none. -/
import Derived.Test.YtjcgfbjdailgoaaMem
import Derived.Test.YtjcgfbjdailgoaaGTy
namespace Go.Proofs.Ytjcgfbjdailgoaa
open Go.RowKit
set_option linter.unusedVariables false
set_option linter.unusedSimpArgs false

inductive GTyped where
  | mk (op : Int) (n : Int) (s : ByteArray) (t : ByteArray) (ty : GTy) (inst : List GTy) (vars : List Int) (kids : List GTyped)
def GTyped.op : GTyped → Int | .mk x _ _ _ _ _ _ _ => x
def GTyped.n : GTyped → Int | .mk _ x _ _ _ _ _ _ => x
def GTyped.s : GTyped → ByteArray | .mk _ _ x _ _ _ _ _ => x
def GTyped.t : GTyped → ByteArray | .mk _ _ _ x _ _ _ _ => x
def GTyped.ty : GTyped → GTy | .mk _ _ _ _ x _ _ _ => x
def GTyped.inst : GTyped → List GTy | .mk _ _ _ _ _ x _ _ => x
def GTyped.vars : GTyped → List Int | .mk _ _ _ _ _ _ x _ => x
def GTyped.kids : GTyped → List GTyped | .mk _ _ _ _ _ _ _ x => x

mutual
def GTyped.toD : GTyped → D | .mk op n s t ty inst vars kids => .agg [.num .i64 op, .num .i64 n, .str s, .str t, ty.toD, .sl 4 (inst.map GTy.toD), .sl 1 (vars.map (D.num .i64)), .sl 11 (GTyped.toDs kids)]
def GTyped.toDs : List GTyped → List D | [] => [] | t :: r => t.toD :: GTyped.toDs r
end

theorem GTyped.toDs_map : ∀ l : List GTyped, GTyped.toDs l = l.map GTyped.toD
  | [] => rfl
  | t :: r => by simp only [GTyped.toDs, List.map_cons, GTyped.toDs_map r]

mutual
/-- how much it holds, as the laws count it -/
def GTyped.bulk : GTyped → Nat | .mk _ _ s t ty inst vars kids => s.size + t.size + ty.bulk + bulkL GTy.bulk inst + vars.length + GTyped.bulks kids
def GTyped.bulks : List GTyped → Nat | [] => 0 | t :: r => 1 + t.bulk + GTyped.bulks r
end
theorem GTyped.bulks_eq : ∀ l : List GTyped, GTyped.bulks l = bulkL GTyped.bulk l
  | [] => rfl
  | t :: r => by simp only [GTyped.bulks, bulkL, GTyped.bulks_eq r]

theorem GTyped.bulk_eq (t : GTyped) : t.bulk = t.s.size + t.t.size + t.ty.bulk + bulkL GTy.bulk t.inst + t.vars.length + bulkL GTyped.bulk t.kids := by
  cases t; simp only [GTyped.bulk, GTyped.bulks_eq, GTyped.op, GTyped.n, GTyped.s, GTyped.t, GTyped.ty, GTyped.inst, GTyped.vars, GTyped.kids]

/-- the facts of a struct that lies in memory: its cells are .int .i64 t.op, .int .i64 t.n, .string t.s, .string t.t, .int .i64 t.ty.op, .int .i64 t.ty.n, .string t.ty.s, .slice A1 t.ty.kids.length c1, .slice A2 t.inst.length c2, .slice A3 t.vars.length c3, .slice A4 t.kids.length c4 -/
def GTyped.At (w : World) (S : Nat → Prop) (A1 : Option Addr) (c1 : Nat) (A2 : Option Addr) (c2 : Nat) (A3 : Option Addr) (c3 : Nat) (A4 : Option Addr) (c4 : Nat) (t : GTyped) : Prop :=
  (Lit.int .i64 t.op).wf = true ∧ (Lit.int .i64 t.n).wf = true ∧ t.s.size ≤ maxLen ∧ t.t.size ≤ maxLen ∧ GTy.At w S A1 c1 t.ty ∧ Sl w S 4 A2 c2 (t.inst.map GTy.toD) ∧ Sl w S 1 A3 c3 (t.vars.map (D.num .i64)) ∧ Sl w S 11 A4 c4 (t.kids.map GTyped.toD)

theorem GTyped.rd {w : World} {S : Nat → Prop} {t : GTyped} {cs : List Value} (h : t.toD.rd w S cs) : ∃ A1 c1 A2 c2 A3 c3 A4 c4, cs = [.int .i64 t.op, .int .i64 t.n, .string t.s, .string t.t, .int .i64 t.ty.op, .int .i64 t.ty.n, .string t.ty.s, .slice A1 t.ty.kids.length c1, .slice A2 t.inst.length c2, .slice A3 t.vars.length c3, .slice A4 t.kids.length c4] ∧ GTyped.At w S A1 c1 A2 c2 A3 c3 A4 c4 t := by
  cases t with
  | mk op n s t ty inst vars kids =>
  simp only [GTyped.toD, GTyped.toDs_map] at h
  rw [D.rd_agg] at h
  rw [D.rdF_cons] at h
  obtain ⟨x0, r0, rfl, k0, h⟩ := h
  obtain ⟨rfl, h0⟩ := D.rd_num.1 k0
  rw [D.rdF_cons] at h
  obtain ⟨x1, r1, rfl, k1, h⟩ := h
  obtain ⟨rfl, h1⟩ := D.rd_num.1 k1
  rw [D.rdF_cons] at h
  obtain ⟨x2, r2, rfl, k2, h⟩ := h
  obtain ⟨rfl, h2⟩ := D.rd_str.1 k2
  rw [D.rdF_cons] at h
  obtain ⟨x3, r3, rfl, k3, h⟩ := h
  obtain ⟨rfl, h3⟩ := D.rd_str.1 k3
  rw [D.rdF_cons] at h
  obtain ⟨x4, r4, rfl, k4, h⟩ := h
  obtain ⟨A1, c1, rfl, h4⟩ := GTy.rd k4
  rw [D.rdF_cons] at h
  obtain ⟨x5, r5, rfl, k5, h⟩ := h
  obtain ⟨A2, c2, rfl, h5⟩ := D.rd_sl.1 k5
  rw [D.rdF_cons] at h
  obtain ⟨x6, r6, rfl, k6, h⟩ := h
  obtain ⟨A3, c3, rfl, h6⟩ := D.rd_sl.1 k6
  rw [D.rdF_cons] at h
  obtain ⟨x7, r7, rfl, k7, h⟩ := h
  obtain ⟨A4, c4, rfl, h7⟩ := D.rd_sl.1 k7
  obtain rfl := D.rdF_nil.1 h
  exact ⟨A1, c1, A2, c2, A3, c3, A4, c4, by simp [GTyped.op, GTyped.n, GTyped.s, GTyped.t, GTyped.ty, GTyped.inst, GTyped.vars, GTyped.kids], h0, h1, h2, h3, h4, h5, h6, h7⟩

theorem GTyped.rd_mk {w : World} {S : Nat → Prop} {t : GTyped} {A1 : Option Addr} {c1 : Nat} {A2 : Option Addr} {c2 : Nat} {A3 : Option Addr} {c3 : Nat} {A4 : Option Addr} {c4 : Nat} (h : GTyped.At w S A1 c1 A2 c2 A3 c3 A4 c4 t) : t.toD.rd w S [.int .i64 t.op, .int .i64 t.n, .string t.s, .string t.t, .int .i64 t.ty.op, .int .i64 t.ty.n, .string t.ty.s, .slice A1 t.ty.kids.length c1, .slice A2 t.inst.length c2, .slice A3 t.vars.length c3, .slice A4 t.kids.length c4] := by
  cases t with
  | mk op n s t ty inst vars kids =>
  simp only [GTyped.toD, GTyped.toDs_map]
  unfold GTyped.At at h
  obtain ⟨h0, h1, h2, h3, h4, h5, h6, h7⟩ := h
  rw [D.rd_agg]
  exact D.rdF_cons.2 ⟨[_], [_, _, _, _, _, _, _, _, _, _], rfl, D.rd_num.2 ⟨rfl, h0⟩, D.rdF_cons.2 ⟨[_], [_, _, _, _, _, _, _, _, _], rfl, D.rd_num.2 ⟨rfl, h1⟩, D.rdF_cons.2 ⟨[_], [_, _, _, _, _, _, _, _], rfl, D.rd_str.2 ⟨rfl, h2⟩, D.rdF_cons.2 ⟨[_], [_, _, _, _, _, _, _], rfl, D.rd_str.2 ⟨rfl, h3⟩, D.rdF_cons.2 ⟨[_, _, _, _], [_, _, _], rfl, GTy.rd_mk h4, D.rdF_cons.2 ⟨[_], [_, _], rfl, D.rd_sl.2 ⟨A2, c2, by simp [GTyped.inst], h5⟩, D.rdF_cons.2 ⟨[_], [_], rfl, D.rd_sl.2 ⟨A3, c3, by simp [GTyped.vars], h6⟩, D.rdF_cons.2 ⟨[_], [], rfl, D.rd_sl.2 ⟨A4, c4, by simp [GTyped.kids], h7⟩, D.rdF_nil.2 rfl⟩⟩⟩⟩⟩⟩⟩⟩

theorem GTyped.elem {w : World} {S : Nat → Prop} {A : Option Addr} {c : Nat} {l : List GTyped} (h : Sl w S 11 A c (l.map GTyped.toD)) (i : Nat) (hi : i < l.length) :
    ∃ b off A1 c1 A2 c2 A3 c3 A4 c4, A = some ⟨b, off, none⟩ ∧ S b ∧ w.cell? ⟨b, off + i * 11, none⟩ = some (.int .i64 l[i].op) ∧ w.cell? ⟨b, off + i * 11 + 1, none⟩ = some (.int .i64 l[i].n) ∧ w.cell? ⟨b, off + i * 11 + 2, none⟩ = some (.string l[i].s) ∧ w.cell? ⟨b, off + i * 11 + 3, none⟩ = some (.string l[i].t) ∧ w.cell? ⟨b, off + i * 11 + 4, none⟩ = some (.int .i64 l[i].ty.op) ∧ w.cell? ⟨b, off + i * 11 + 5, none⟩ = some (.int .i64 l[i].ty.n) ∧ w.cell? ⟨b, off + i * 11 + 6, none⟩ = some (.string l[i].ty.s) ∧ w.cell? ⟨b, off + i * 11 + 7, none⟩ = some (.slice A1 l[i].ty.kids.length c1) ∧ w.cell? ⟨b, off + i * 11 + 8, none⟩ = some (.slice A2 l[i].inst.length c2) ∧ w.cell? ⟨b, off + i * 11 + 9, none⟩ = some (.slice A3 l[i].vars.length c3) ∧ w.cell? ⟨b, off + i * 11 + 10, none⟩ = some (.slice A4 l[i].kids.length c4) ∧ GTyped.At w S A1 c1 A2 c2 A3 c3 A4 c4 l[i] := by
  obtain ⟨b, off, cs, e, hb, hl, hc, hr⟩ := Sl.get h i (by simpa using hi)
  rw [List.getElem_map] at hr
  obtain ⟨A1, c1, A2, c2, A3, c3, A4, c4, rfl, h1⟩ := GTyped.rd hr
  exact ⟨b, off, A1, c1, A2, c2, A3, c3, A4, c4, e, hb, hc 0 _ rfl, hc 1 _ rfl, hc 2 _ rfl, hc 3 _ rfl, hc 4 _ rfl, hc 5 _ rfl, hc 6 _ rfl, hc 7 _ rfl, hc 8 _ rfl, hc 9 _ rfl, hc 10 _ rfl, h1⟩

theorem GTyped.At.keep {w w' : World} {S S' : Nat → Prop} {t : GTyped} {A1 : Option Addr} {c1 : Nat} {A2 : Option Addr} {c2 : Nat} {A3 : Option Addr} {c3 : Nat} {A4 : Option Addr} {c4 : Nat} (h : GTyped.At w S A1 c1 A2 c2 A3 c3 A4 c4 t) (hk : ∀ b, S b → S' b ∧ w'.heap[b]? = w.heap[b]?) : GTyped.At w' S' A1 c1 A2 c2 A3 c3 A4 c4 t := by
  unfold GTyped.At at h ⊢
  obtain ⟨h0, h1, h2, h3, h4, h5, h6, h7⟩ := h
  exact ⟨h0, h1, h2, h3, h4.keep hk, h5.keep hk, h6.keep hk, h7.keep hk⟩
theorem GTyped.At.below {w w' : World} {B B' : Nat} {t : GTyped} {A1 : Option Addr} {c1 : Nat} {A2 : Option Addr} {c2 : Nat} {A3 : Option Addr} {c3 : Nat} {A4 : Option Addr} {c4 : Nat} (h : GTyped.At w (Lt B) A1 c1 A2 c2 A3 c3 A4 c4 t) (hb : Below B w w') (hB : B ≤ B') : GTyped.At w' (Lt B') A1 c1 A2 c2 A3 c3 A4 c4 t :=
  h.keep (keep_below hb hB)

/-- the same, owned -/
def GTyped.Ow (w : World) (S : Nat → Prop) (A1 : Option Addr) (c1 : Nat) (A2 : Option Addr) (c2 : Nat) (A3 : Option Addr) (c3 : Nat) (A4 : Option Addr) (c4 : Nat) (t : GTyped) : Prop :=
  ∃ S1 S2 S3 S4 : Nat → Prop, (∀ x, S1 x → S x) ∧ (∀ x, S2 x → S x) ∧ (∀ x, S3 x → S x) ∧ (∀ x, S4 x → S x) ∧ (∀ x, S1 x → ¬ S2 x) ∧ (∀ x, S1 x → ¬ S3 x) ∧ (∀ x, S1 x → ¬ S4 x) ∧ (∀ x, S2 x → ¬ S3 x) ∧ (∀ x, S2 x → ¬ S4 x) ∧ (∀ x, S3 x → ¬ S4 x) ∧ (Lit.int .i64 t.op).wf = true ∧ (Lit.int .i64 t.n).wf = true ∧ t.s.size ≤ maxLen ∧ t.t.size ≤ maxLen ∧ GTy.Ow w S1 A1 c1 t.ty ∧ Osl w S2 4 A2 c2 (t.inst.map GTy.toD) ∧ Osl w S3 1 A3 c3 (t.vars.map (D.num .i64)) ∧ Osl w S4 11 A4 c4 (t.kids.map GTyped.toD)

theorem GTyped.own_mk {w : World} {S : Nat → Prop} {t : GTyped} {A1 : Option Addr} {c1 : Nat} {A2 : Option Addr} {c2 : Nat} {A3 : Option Addr} {c3 : Nat} {A4 : Option Addr} {c4 : Nat} (h : GTyped.Ow w S A1 c1 A2 c2 A3 c3 A4 c4 t) : t.toD.own w S [.int .i64 t.op, .int .i64 t.n, .string t.s, .string t.t, .int .i64 t.ty.op, .int .i64 t.ty.n, .string t.ty.s, .slice A1 t.ty.kids.length c1, .slice A2 t.inst.length c2, .slice A3 t.vars.length c3, .slice A4 t.kids.length c4] := by
  cases t with
  | mk op n s t ty inst vars kids =>
  simp only [GTyped.toD, GTyped.toDs_map]
  unfold GTyped.Ow at h
  obtain ⟨S1, S2, S3, S4, g1, g2, g3, g4, d12, d13, d14, d23, d24, d34, h0, h1, h2, h3, h4, h5, h6, h7⟩ := h
  rw [D.own_agg]
  exact D.ownF_plain (c1 := [_]) (c2 := [_, _, _, _, _, _, _, _, _, _]) (D.own_num.2 ⟨rfl, h0⟩) (D.ownF_plain (c1 := [_]) (c2 := [_, _, _, _, _, _, _, _, _]) (D.own_num.2 ⟨rfl, h1⟩) (D.ownF_plain (c1 := [_]) (c2 := [_, _, _, _, _, _, _, _]) (D.own_str.2 ⟨rfl, h2⟩) (D.ownF_plain (c1 := [_]) (c2 := [_, _, _, _, _, _, _]) (D.own_str.2 ⟨rfl, h3⟩) (D.ownF_cons (S := S) (S1 := S1) (S2 := fun x => S2 x ∨ S3 x ∨ S4 x) (c1 := [_, _, _, _]) (c2 := [_, _, _]) (fun x hx => ⟨g1 x hx, fun h => by rcases h with h | h | h <;> first | exact d12 x hx h | exact d13 x hx h | exact d14 x hx h⟩) (fun x hx => by rcases hx with h | h | h <;> first | exact g2 x h | exact g3 x h | exact g4 x h) (GTy.own_mk h4) (D.ownF_cons (S := fun x => S2 x ∨ S3 x ∨ S4 x) (S1 := S2) (S2 := fun x => S3 x ∨ S4 x) (c1 := [_]) (c2 := [_, _]) (fun x hx => ⟨.inl (hx), fun h => by rcases h with h | h <;> first | exact d23 x hx h | exact d24 x hx h⟩) (fun x hx => .inr hx) (D.own_sl.2 ⟨A2, c2, by simp [GTyped.inst], h5⟩) (D.ownF_cons (S := fun x => S3 x ∨ S4 x) (S1 := S3) (S2 := S4) (c1 := [_]) (c2 := [_]) (fun x hx => ⟨.inl (hx), fun h => d34 x hx h⟩) (fun x hx => .inr hx) (D.own_sl.2 ⟨A3, c3, by simp [GTyped.vars], h6⟩) (D.ownF_last (D.own_sl.2 ⟨A4, c4, by simp [GTyped.kids], h7⟩))))))))

theorem GTyped.Ow.keep {w w' : World} {S S' : Nat → Prop} {t : GTyped} {A1 : Option Addr} {c1 : Nat} {A2 : Option Addr} {c2 : Nat} {A3 : Option Addr} {c3 : Nat} {A4 : Option Addr} {c4 : Nat} (h : GTyped.Ow w S A1 c1 A2 c2 A3 c3 A4 c4 t) (hk : ∀ b, S b → S' b ∧ w'.heap[b]? = w.heap[b]?) : GTyped.Ow w' S' A1 c1 A2 c2 A3 c3 A4 c4 t := by
  unfold GTyped.Ow at h ⊢
  obtain ⟨S1, S2, S3, S4, g1, g2, g3, g4, d12, d13, d14, d23, d24, d34, h0, h1, h2, h3, h4, h5, h6, h7⟩ := h
  exact ⟨S1, S2, S3, S4, fun x hx => (hk x (g1 x hx)).1, fun x hx => (hk x (g2 x hx)).1, fun x hx => (hk x (g3 x hx)).1, fun x hx => (hk x (g4 x hx)).1, d12, d13, d14, d23, d24, d34, h0, h1, h2, h3, h4.keep fun b hb => ⟨hb, (hk b (g1 b hb)).2⟩, h5.keep fun b hb => ⟨hb, (hk b (g2 b hb)).2⟩, h6.keep fun b hb => ⟨hb, (hk b (g3 b hb)).2⟩, h7.keep fun b hb => ⟨hb, (hk b (g4 b hb)).2⟩⟩
theorem GTyped.Ow.at {w : World} {S : Nat → Prop} {t : GTyped} {A1 : Option Addr} {c1 : Nat} {A2 : Option Addr} {c2 : Nat} {A3 : Option Addr} {c3 : Nat} {A4 : Option Addr} {c4 : Nat} (h : GTyped.Ow w S A1 c1 A2 c2 A3 c3 A4 c4 t) : GTyped.At w S A1 c1 A2 c2 A3 c3 A4 c4 t := by
  unfold GTyped.Ow at h
  unfold GTyped.At
  obtain ⟨S1, S2, S3, S4, g1, g2, g3, g4, d12, d13, d14, d23, d24, d34, h0, h1, h2, h3, h4, h5, h6, h7⟩ := h
  exact ⟨h0, h1, h2, h3, h4.at.keep fun b hb => ⟨g1 b hb, rfl⟩, h5.sl.keep fun b hb => ⟨g2 b hb, rfl⟩, h6.sl.keep fun b hb => ⟨g3 b hb, rfl⟩, h7.sl.keep fun b hb => ⟨g4 b hb, rfl⟩⟩

end Go.Proofs.Ytjcgfbjdailgoaa
