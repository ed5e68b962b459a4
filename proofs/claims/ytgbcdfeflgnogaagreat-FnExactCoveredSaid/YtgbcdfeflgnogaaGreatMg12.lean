/- Several texts of this claim in one: GProg CoveredP FTy TyTidy. Conditions: none but bounds on sizes. -/
import Derived.Test.YtgbcdfeflgnogaaGreatMg0
import Derived.Test.YtgbcdfeflgnogaaGreatMg5
import Derived.Test.YtgbcdfeflgnogaaGreatMg2
import Derived.Test.YtgbcdfeflgnogaaGreatMg3
import Derived.Test.YtgbcdfeflgnogaaGreatMg11
import Derived.Test.YtgbcdfeflgnogaaGreatRows
import Derived.Test.YtgbcdfeflgnogaaGreatMg4
import Derived.Lib.Hide
/- The data of the Go struct Prog: how it lies in memory (no program in sight). Conditions: none. -/
namespace Go.Proofs.YtgbcdfeflgnogaaGreat
open Go.RowKit
set_option linter.unusedVariables false
set_option linter.unusedSimpArgs false

structure GProg where
  datas : List GData
  main : GNode

def GProg.toD (x : GProg) : D := .agg [.sl 3 (x.datas.map GData.toD), x.main.toD]

/-- how much it holds, as the laws count it -/
def GProg.bulk (x : GProg) : Nat := bulkL GData.bulk x.datas + x.main.bulk

theorem GProg.bulk_eq (t : GProg) : t.bulk = bulkL GData.bulk t.datas + t.main.bulk := rfl

/-- the facts of a struct that lies in memory: its cells are .slice A1 t.datas.length c1, .int .i64 t.main.op, .int .i64 t.main.n, .string t.main.s, .string t.main.t, .slice A2 t.main.kids.length c2 -/
def GProg.At (w : World) (S : Nat → Prop) (A1 : Option Addr) (c1 : Nat) (A2 : Option Addr) (c2 : Nat) (t : GProg) : Prop :=
  Sl w S 3 A1 c1 (t.datas.map GData.toD) ∧ GNode.At w S A2 c2 t.main

theorem GProg.rd {w : World} {S : Nat → Prop} {t : GProg} {cs : List Value} (h : t.toD.rd w S cs) : ∃ A1 c1 A2 c2, cs = [.slice A1 t.datas.length c1, .int .i64 t.main.op, .int .i64 t.main.n, .string t.main.s, .string t.main.t, .slice A2 t.main.kids.length c2] ∧ GProg.At w S A1 c1 A2 c2 t := by
  unfold GProg.toD at h
  rw [D.rd_agg] at h
  rw [D.rdF_cons] at h
  obtain ⟨x0, r0, rfl, k0, h⟩ := h
  obtain ⟨A1, c1, rfl, h0⟩ := D.rd_sl.1 k0
  rw [D.rdF_cons] at h
  obtain ⟨x1, r1, rfl, k1, h⟩ := h
  obtain ⟨A2, c2, rfl, h1⟩ := GNode.rd k1
  obtain rfl := D.rdF_nil.1 h
  exact ⟨A1, c1, A2, c2, by simp [List.length_map], h0, h1⟩

theorem GProg.rd_mk {w : World} {S : Nat → Prop} {t : GProg} {A1 : Option Addr} {c1 : Nat} {A2 : Option Addr} {c2 : Nat} (h : GProg.At w S A1 c1 A2 c2 t) : t.toD.rd w S [.slice A1 t.datas.length c1, .int .i64 t.main.op, .int .i64 t.main.n, .string t.main.s, .string t.main.t, .slice A2 t.main.kids.length c2] := by
  unfold GProg.toD
  unfold GProg.At at h
  obtain ⟨h0, h1⟩ := h
  rw [D.rd_agg]
  exact D.rdF_cons.2 ⟨[_], [_, _, _, _, _], rfl, D.rd_sl.2 ⟨A1, c1, by simp [List.length_map], h0⟩, D.rdF_cons.2 ⟨[_, _, _, _, _], [], rfl, GNode.rd_mk h1, D.rdF_nil.2 rfl⟩⟩

theorem GProg.elem {w : World} {S : Nat → Prop} {A : Option Addr} {c : Nat} {l : List GProg} (h : Sl w S 6 A c (l.map GProg.toD)) (i : Nat) (hi : i < l.length) :
    ∃ b off A1 c1 A2 c2, A = some ⟨b, off, none⟩ ∧ S b ∧ w.cell? ⟨b, off + i * 6, none⟩ = some (.slice A1 l[i].datas.length c1) ∧ w.cell? ⟨b, off + i * 6 + 1, none⟩ = some (.int .i64 l[i].main.op) ∧ w.cell? ⟨b, off + i * 6 + 2, none⟩ = some (.int .i64 l[i].main.n) ∧ w.cell? ⟨b, off + i * 6 + 3, none⟩ = some (.string l[i].main.s) ∧ w.cell? ⟨b, off + i * 6 + 4, none⟩ = some (.string l[i].main.t) ∧ w.cell? ⟨b, off + i * 6 + 5, none⟩ = some (.slice A2 l[i].main.kids.length c2) ∧ GProg.At w S A1 c1 A2 c2 l[i] := by
  obtain ⟨b, off, cs, e, hb, hl, hc, hr⟩ := Sl.get h i (by simpa using hi)
  rw [List.getElem_map] at hr
  obtain ⟨A1, c1, A2, c2, rfl, h1⟩ := GProg.rd hr
  exact ⟨b, off, A1, c1, A2, c2, e, hb, hc 0 _ rfl, hc 1 _ rfl, hc 2 _ rfl, hc 3 _ rfl, hc 4 _ rfl, hc 5 _ rfl, h1⟩

theorem GProg.At.keep {w w' : World} {S S' : Nat → Prop} {t : GProg} {A1 : Option Addr} {c1 : Nat} {A2 : Option Addr} {c2 : Nat} (h : GProg.At w S A1 c1 A2 c2 t) (hk : ∀ b, S b → S' b ∧ w'.heap[b]? = w.heap[b]?) : GProg.At w' S' A1 c1 A2 c2 t := by
  unfold GProg.At at h ⊢
  obtain ⟨h0, h1⟩ := h
  exact ⟨h0.keep hk, h1.keep hk⟩
theorem GProg.At.below {w w' : World} {B B' : Nat} {t : GProg} {A1 : Option Addr} {c1 : Nat} {A2 : Option Addr} {c2 : Nat} (h : GProg.At w (Lt B) A1 c1 A2 c2 t) (hb : Below B w w') (hB : B ≤ B') : GProg.At w' (Lt B') A1 c1 A2 c2 t :=
  h.keep (keep_below hb hB)

/-- the same, owned -/
def GProg.Ow (w : World) (S : Nat → Prop) (A1 : Option Addr) (c1 : Nat) (A2 : Option Addr) (c2 : Nat) (t : GProg) : Prop :=
  ∃ S1 S2 : Nat → Prop, (∀ x, S1 x → S x) ∧ (∀ x, S2 x → S x) ∧ (∀ x, S1 x → ¬ S2 x) ∧ Osl w S1 3 A1 c1 (t.datas.map GData.toD) ∧ GNode.Ow w S2 A2 c2 t.main

theorem GProg.own_mk {w : World} {S : Nat → Prop} {t : GProg} {A1 : Option Addr} {c1 : Nat} {A2 : Option Addr} {c2 : Nat} (h : GProg.Ow w S A1 c1 A2 c2 t) : t.toD.own w S [.slice A1 t.datas.length c1, .int .i64 t.main.op, .int .i64 t.main.n, .string t.main.s, .string t.main.t, .slice A2 t.main.kids.length c2] := by
  unfold GProg.toD
  unfold GProg.Ow at h
  obtain ⟨S1, S2, g1, g2, d12, h0, h1⟩ := h
  rw [D.own_agg]
  exact D.ownF_cons (S := S) (S1 := S1) (S2 := S2) (c1 := [_]) (c2 := [_, _, _, _, _]) (fun x hx => ⟨g1 x hx, fun h => d12 x hx h⟩) (g2) (D.own_sl.2 ⟨A1, c1, by simp [List.length_map], h0⟩) (D.ownF_last (GNode.own_mk h1))

theorem GProg.Ow.keep {w w' : World} {S S' : Nat → Prop} {t : GProg} {A1 : Option Addr} {c1 : Nat} {A2 : Option Addr} {c2 : Nat} (h : GProg.Ow w S A1 c1 A2 c2 t) (hk : ∀ b, S b → S' b ∧ w'.heap[b]? = w.heap[b]?) : GProg.Ow w' S' A1 c1 A2 c2 t := by
  unfold GProg.Ow at h ⊢
  obtain ⟨S1, S2, g1, g2, d12, h0, h1⟩ := h
  exact ⟨S1, S2, fun x hx => (hk x (g1 x hx)).1, fun x hx => (hk x (g2 x hx)).1, d12, h0.keep fun b hb => ⟨hb, (hk b (g1 b hb)).2⟩, h1.keep fun b hb => ⟨hb, (hk b (g2 b hb)).2⟩⟩
theorem GProg.Ow.at {w : World} {S : Nat → Prop} {t : GProg} {A1 : Option Addr} {c1 : Nat} {A2 : Option Addr} {c2 : Nat} (h : GProg.Ow w S A1 c1 A2 c2 t) : GProg.At w S A1 c1 A2 c2 t := by
  unfold GProg.Ow at h
  unfold GProg.At
  obtain ⟨S1, S2, g1, g2, d12, h0, h1⟩ := h
  exact ⟨h0.sl.keep fun b hb => ⟨g1 b hb, rfl⟩, h1.at.keep fun b hb => ⟨g2 b hb, rfl⟩⟩

end Go.Proofs.YtgbcdfeflgnogaaGreat

/- Covered: what both compute (no program in sight). Conditions: none. -/
namespace Go.Proofs.YtgbcdfeflgnogaaGreat
open Go.RowKit
set_option linter.unusedVariables false
set_option linter.unusedSimpArgs false

mutual
/-- has each case some kid? -/
def GNode.caseOk : GNode → Bool | .mk op n s t kids => (op != 7 || decide (1 ≤ kids.length)) && GNode.caseOkL kids
def GNode.caseOkL : List GNode → Bool | [] => true | x :: r => x.caseOk && GNode.caseOkL r
end
theorem GNode.caseOk_eq (t : GNode) : t.caseOk = ((t.op != 7 || decide (1 ≤ t.kids.length)) && GNode.caseOkL t.kids) := by cases t; rw [GNode.caseOk]; rfl
theorem GNode.caseOkL_all : ∀ l : List GNode, GNode.caseOkL l = l.all GNode.caseOk
  | [] => by rw [GNode.caseOkL]; rfl
  | t :: r => by rw [GNode.caseOkL, GNode.caseOkL_all r]; rfl
theorem GNode.caseOk_kid {t x : GNode} (h : t.caseOk = true) (hx : x ∈ t.kids) : x.caseOk = true := by
  rw [GNode.caseOk_eq, GNode.caseOkL_all, Bool.and_eq_true, List.all_eq_true] at h
  exact h.2 x hx
theorem GNode.caseOk_case {t : GNode} (h : t.caseOk = true) (h7 : t.op = 7) : 1 ≤ t.kids.length := by
  rw [GNode.caseOk_eq, Bool.and_eq_true, h7] at h
  simpa using h.1

theorem pat1_op {op n : Int} {s t : ByteArray} {k : Nat} (h : pat1 op n s t k = true) : (op != 7) = true := by
  rw [bne_iff_ne]
  intro e
  subst e
  unfold pat1 at h
  simp at h
theorem alt1_op {op n : Int} {s t : ByteArray} {k : Nat} (h : alt1 op n s t k = true) : (op != 7) = true := by
  rw [bne_iff_ne]
  intro e
  subst e
  unfold alt1 at h
  simp at h
theorem exp1_case {n : Int} {s t : ByteArray} {k : Nat} (h : exp1 7 n s t k = true) : 2 ≤ k := by
  unfold exp1 at h
  simp at h
  omega
mutual
theorem GNode.caseOk_pat : ∀ t : GNode, t.pat = true → t.caseOk = true
  | .mk op n s t kids, h => by
    rw [GNode.pat, Bool.and_eq_true] at h
    rw [GNode.caseOk, GNode.caseOkL_pat kids h.2, pat1_op h.1]; rfl
theorem GNode.caseOkL_pat : ∀ l : List GNode, GNode.patL l = true → GNode.caseOkL l = true
  | [], _ => by rw [GNode.caseOkL]
  | x :: r, h => by
    rw [GNode.patL, Bool.and_eq_true] at h
    rw [GNode.caseOkL, GNode.caseOk_pat x h.1, GNode.caseOkL_pat r h.2]; rfl
end
mutual
theorem GNode.caseOk_exp : ∀ t : GNode, t.exp = true → t.caseOk = true
  | .mk op n s t kids, h => by
    rw [GNode.exp, Bool.and_eq_true] at h
    by_cases h7 : op = 7
    · have h1 := h.2
      rw [if_pos h7] at h1
      have h2 : 2 ≤ kids.length := by have := h.1; rw [h7] at this; exact exp1_case this
      rw [GNode.caseOk, GNode.caseOkL_case kids h1, decide_eq_true (show 1 ≤ kids.length by omega)]; simp
    · have h1 := h.2
      rw [if_neg h7] at h1
      rw [GNode.caseOk, GNode.caseOkL_exp kids h1, show (op != 7) = true from bne_iff_ne.2 h7]; rfl
theorem GNode.caseOkL_exp : ∀ l : List GNode, GNode.expL l = true → GNode.caseOkL l = true
  | [], _ => by rw [GNode.caseOkL]
  | x :: r, h => by
    rw [GNode.expL, Bool.and_eq_true] at h
    rw [GNode.caseOkL, GNode.caseOk_exp x h.1, GNode.caseOkL_exp r h.2]; rfl
theorem GNode.caseOkL_case : ∀ l : List GNode, GNode.caseL l = true → GNode.caseOkL l = true
  | [], h => by rw [GNode.caseL] at h; cases h
  | x :: r, h => by
    rw [GNode.caseL, Bool.and_eq_true] at h
    rw [GNode.caseOkL, GNode.caseOk_exp x h.1, GNode.caseOkL_alt r h.2]; rfl
theorem GNode.caseOkL_alt : ∀ l : List GNode, GNode.altL l = true → GNode.caseOkL l = true
  | [], _ => by rw [GNode.caseOkL]
  | x :: r, h => by
    rw [GNode.altL, Bool.and_eq_true] at h
    rw [GNode.caseOkL, GNode.caseOk_alt x h.1, GNode.caseOkL_alt r h.2]; rfl
theorem GNode.caseOk_alt : ∀ t : GNode, t.alt = true → t.caseOk = true
  | .mk op n s t kids, h => by
    rw [GNode.alt, Bool.and_eq_true] at h
    have h2 : kids.length = 2 := by
      have := h.1
      unfold alt1 at this
      simp at this
      exact this.2.2.2.2
    rw [GNode.caseOk, GNode.caseOkL_altK kids h2 h.2, alt1_op h.1]; rfl
theorem GNode.caseOkL_altK : ∀ l : List GNode, l.length = 2 → GNode.altK l = true → GNode.caseOkL l = true
  | [], hl, _ => by simp at hl
  | [p], hl, _ => by simp at hl
  | [p, x], _, h => by
    rw [GNode.altK, GNode.altE, Bool.and_eq_true] at h
    rw [GNode.caseOkL, GNode.caseOkL, GNode.caseOkL, GNode.caseOk_pat p h.1, GNode.caseOk_exp x h.2]; rfl
  | p :: x :: y :: r, hl, _ => by simp at hl
end

mutual
/-- does no case within a node miss a value? -/
def GNode.cov (ds : List GData) : GNode → Bool | .mk op n s t kids => (op != 7 || !missingG patOf ds (kids.drop 1)) && GNode.covL ds kids
def GNode.covL (ds : List GData) : List GNode → Bool | [] => true | x :: r => x.cov ds && GNode.covL ds r
end
theorem GNode.cov_eq (ds : List GData) (t : GNode) : t.cov ds = ((t.op != 7 || !missingG patOf ds (t.kids.drop 1)) && GNode.covL ds t.kids) := by cases t; rw [GNode.cov]; rfl
theorem GNode.covL_all (ds : List GData) : ∀ l : List GNode, GNode.covL ds l = l.all (GNode.cov ds)
  | [] => by rw [GNode.covL]; rfl
  | t :: r => by rw [GNode.covL, GNode.covL_all ds r]; rfl
theorem allN_take {α : Type} {p : α → Bool} {l : List α} {j : Nat} (h : j < l.length) : (l.take (j + 1)).all p = ((l.take j).all p && p l[j]) := by
  rw [List.take_succ_eq_append_getElem h, List.all_append]; simp
theorem allN_no {α : Type} {p : α → Bool} {l : List α} {j : Nat} (h : j < l.length) (e : p l[j] = false) : l.all p = false := by
  rw [List.all_eq_false]
  exact ⟨_, List.getElem_mem h, by rw [e]; exact Bool.false_ne_true⟩
theorem cov_kid {ds : List GData} {t : GNode} {j : Nat} (h : j < t.kids.length) (e : (t.kids[j]).cov ds = false) : t.cov ds = false := by
  rw [GNode.cov_eq, GNode.covL_all, allN_no h e, Bool.and_false]
theorem cov_other {ds : List GData} {t : GNode} (h : ¬ t.op = 7) : t.cov ds = t.kids.all (GNode.cov ds) := by
  rw [GNode.cov_eq, GNode.covL_all, show (t.op != 7) = true from bne_iff_ne.2 h]; rfl
theorem cov_case {ds : List GData} {t x : GNode} {r : List GNode} (h : t.op = 7) (hk : t.kids = x :: r) : t.cov ds = (!missingG patOf ds r && t.kids.all (GNode.cov ds)) := by
  rw [GNode.cov_eq, GNode.covL_all, h, hk]; rfl
/-- is a program tidy, and covered? -/
def coveredB (tidy : Bool) (p : GProg) : Bool := tidy && p.main.cov p.datas
end Go.Proofs.YtgbcdfeflgnogaaGreat

/- slices.IndexFunc and slices.ContainsFunc at Ty, with whatever predicate that only makes memory of its own. Conditions: none. -/
namespace Go.Proofs.YtgbcdfeflgnogaaGreat
open Go.RowKit
set_option linter.unusedVariables false
set_option linter.unusedSimpArgs false
set_option maxHeartbeats 400000

theorem indexFuncTy (K : Nat) (hK : ∀ (args : Array Value) (w : World), (callFunc K args).run Tryz.prog w = .ok (.enter K args) w) (caps : Array Value) (p : GTy → Bool) (l : List GTy) (A : Option Addr) (c : Nat) (w : World) (hs : Sl w (Lt w.heap.size) 4 A c (l.map GTy.toD))
    (H : ∀ x, x ∈ l → ∀ (A1 : Option Addr) (c1 : Nat) (w2 : World), Below w.heap.size w w2 → GTy.At w2 (Lt w2.heap.size) A1 c1 x →
      Calls Tryz.prog K (#[.agg #[.int .i64 x.op, .int .i64 x.n, .string x.s, .slice A1 x.kids.length c1]] ++ caps) w2 fun e w' => e = .returned (.bool (p x)) ∧ Below w2.heap.size w2 w') :
    Calls Tryz.prog 71 #[.slice A l.length c, .func (.func K) #[] caps] w fun e w' => e = .returned (.int .i64 (idxI p l)) ∧ Below w.heap.size w w' := by
  have hlen : l.length ≤ 9223372036854775807 := by simpa using hs.len
  have HH := Lib.hid H
  clear H
  go_enter Tryz.func71, Tryz.ntmps71
  go_wp2_with fail
  go_loopw [8] (fun i wr => ∃ j : Nat, j ≤ l.length ∧ i = .int .i64 j ∧ noneTo p l j ∧ Below w.heap.size w wr) (fun i _ => l.length - (intOf i).toNat)
  case atStart => exact ⟨0, by omega, by go_num, noneTo_zero p l, Below.refl _ _⟩
  case round =>
    obtain ⟨j, hj, rfl, hno, hbl⟩ := hrel
    have Hno := Lib.hid hno
    clear hno
    have hsz := hbl.size
    by_cases hlt : j < l.length
    · have htr := GTy.elem (hs.below hbl (Nat.le_refl _)) j hlt
      obtain ⟨b, off, A1, c1, rfl, hSb, g0, g1, g2, g3, hat⟩ := htr
      have hmem : l[j] ∈ l := List.getElem_mem hlt
      go_wp2_with fail
      refine (HH.out _ hmem _ _ _ hbl (hat.below (Below.refl _ _) hsz)).mono ?_
      rintro e w1 ⟨rfl, hb1⟩
      cases he : p l[j]
      · have hn := Lib.hid (noneTo_succ Hno.out hlt he)
        go_wp2_with fail
        go_roundw
        case rel => exact ⟨j + 1, by omega, by go_num, hn.out, hbl.trans (hb1.mono hsz)⟩
        case measure => simp [intOf]; omega
      · have hn := Lib.hid (idxI_at Hno.out hlt he)
        go_wp2_with fail
        go_ret
        exact ⟨ret_int hn.out.symm, hbl.trans (hb1.mono hsz)⟩
    · have hjl : j = l.length := by omega
      have Hj := Lib.hid hjl
      clear hjl
      go_wp2_with fail
      go_ret
      exact ⟨ret_int (idxI_none (by have := Hno.out; rw [Hj.out] at this; exact this)).symm, hbl⟩

theorem containsFuncTy (K : Nat) (hK : ∀ (args : Array Value) (w : World), (callFunc K args).run Tryz.prog w = .ok (.enter K args) w) (caps : Array Value) (p : GTy → Bool) (l : List GTy) (A : Option Addr) (c : Nat) (w : World) (hs : Sl w (Lt w.heap.size) 4 A c (l.map GTy.toD))
    (H : ∀ x, x ∈ l → ∀ (A1 : Option Addr) (c1 : Nat) (w2 : World), Below w.heap.size w w2 → GTy.At w2 (Lt w2.heap.size) A1 c1 x →
      Calls Tryz.prog K (#[.agg #[.int .i64 x.op, .int .i64 x.n, .string x.s, .slice A1 x.kids.length c1]] ++ caps) w2 fun e w' => e = .returned (.bool (p x)) ∧ Below w2.heap.size w2 w') :
    Calls Tryz.prog 50 #[.slice A l.length c, .func (.func K) #[] caps] w fun e w' => e = .returned (.bool (l.any p)) ∧ Below w.heap.size w w' := by
  have HH := Lib.hid H
  clear H
  go_enter Tryz.func50, Tryz.ntmps50
  go_wp2_with fail
  refine (indexFuncTy K hK caps p l A c w hs HH.out).mono ?_
  rintro e w1 ⟨rfl, hb1⟩
  cases ha : l.any p
  · have hi := idxI_any_false ha
    rw [hi]
    have Ha := Lib.hid ha
    clear ha hi
    go_wp2_with fail
    go_ret
    exact ⟨ret_bool Ha.out.symm, hb1⟩
  · have hi := idxI_any_true ha
    have Ha := Lib.hid ha
    clear ha
    generalize idxI p l = x at *
    go_wp2_with fail
    go_ret
    exact ⟨ret_bool Ha.out.symm, hb1⟩

end Go.Proofs.YtgbcdfeflgnogaaGreat

/- Types of a data that are tidy. Conditions: none but a bound on the number of vars. -/
namespace Go.Proofs.YtgbcdfeflgnogaaGreat
open Go.RowKit
set_option linter.unusedVariables false
set_option linter.unusedSimpArgs false
set_option maxHeartbeats 1000000

/-- is one type tidy by itself, with so many kids? -/
def tidy1 (vs op n : Int) (s : ByteArray) (k : Nat) : Bool :=
  if op = 1 then n == 0 && (s.toList.isEmpty && k == 0)
  else if op = 2 then inB n 0 (vs - 1) && (s.toList.isEmpty && k == 0)
  else if op = 3 then n == 0 && (s.toList.isEmpty && k == 2)
  else if op = 4 then n == 0 && conB s else false

mutual
/-- is a type tidy? -/
def GTy.tidy (vs : Int) : GTy → Bool | .mk op n s kids => tidy1 vs op n s kids.length && GTy.tidyL vs kids
def GTy.tidyL (vs : Int) : List GTy → Bool | [] => true | t :: r => t.tidy vs && GTy.tidyL vs r
end

theorem GTy.tidy_eq (vs : Int) (t : GTy) : t.tidy vs = (tidy1 vs t.op t.n t.s t.kids.length && GTy.tidyL vs t.kids) := by
  cases t; simp only [GTy.tidy, GTy.op, GTy.n, GTy.s, GTy.kids]
theorem GTy.tidyL_all (vs : Int) : ∀ l : List GTy, GTy.tidyL vs l = l.all (GTy.tidy vs)
  | [] => rfl
  | t :: r => by simp only [GTy.tidyL, List.all_cons, GTy.tidyL_all vs r]
theorem GTy.tidyL_any (vs : Int) (l : List GTy) : GTy.tidyL vs l = !(l.any fun t => !t.tidy vs) := by
  rw [GTy.tidyL_all]; induction l with
  | nil => rfl
  | cons t r ih => simp only [List.all_cons, List.any_cons, ih, Bool.not_or, Bool.not_not]

theorem implTypeTidy (vs : Int) (hv0 : 0 ≤ vs) (hv1 : vs ≤ 26) (k : Nat) : ∀ (t : GTy) (A1 : Option Addr) (c1 : Nat) (w : World), t.bulk < k → GTy.At w (Lt w.heap.size) A1 c1 t →
    Calls Tryz.prog 60 #[.agg #[.int .i64 t.op, .int .i64 t.n, .string t.s, .slice A1 t.kids.length c1], .int .i64 vs] w fun e w' => e = .returned (.bool (t.tidy vs)) ∧ Below w.heap.size w w' := by
  induction k with
  | zero => intro t A1 c1 w h; omega
  | succ k ih =>
    intro t A1 c1 w hk0 ht
    obtain ⟨h0, h1, h2, hs⟩ := id ht
    have hsz2 : t.s.size ≤ 9223372036854775807 := by unfold maxLen at h2; omega
    have hlen : t.kids.length ≤ 9223372036854775807 := by simpa using hs.len
    have hte := Lib.hid (t.tidy_eq vs)
    have hbe := t.bulk_eq
    obtain ⟨w0, e0⟩ : ∃ w0, w0 = (w.alloc (.cells #[.int .i64 t.op, .int .i64 t.n, .string t.s, .slice A1 t.kids.length c1] 61)).alloc (.cells #[.int .i64 vs] 3) := ⟨_, rfl⟩
    have E := Lib.hid (show Below w.heap.size w w0 by rw [e0]; exact ((Below.refl _ _).alloc (Nat.le_refl _) _).alloc (by simp) _)
    have R := Lib.hid (show Row w0 (w.heap.size + 1) 3 #[.int .i64 vs] by rw [e0]; exact Row.new' _ _ _ (by simp))
    have EQ := Lib.hid e0
    -- the literal that asks a kid
    have HC : ∀ x, x ∈ t.kids → ∀ (A1 : Option Addr) (c1 : Nat) (w2 : World), GTy.At w2 (Lt w2.heap.size) A1 c1 x → Below w0.heap.size w0 w2 →
        Calls Tryz.prog 77 (#[.agg #[.int .i64 x.op, .int .i64 x.n, .string x.s, .slice A1 x.kids.length c1]] ++ #[.pointer (some ⟨w.heap.size + 1, 0, none⟩)]) w2 fun e w' => e = .returned (.bool (!x.tidy vs)) ∧ Below w2.heap.size w2 w' := by
      intro x hx A1 c1 w2 hx2 hbw
      have hxb : x.bulk < k := by have := bulkL_mem GTy.bulk t.kids x hx; omega
      have E2 : Below w2.heap.size w2 (w2.alloc (.cells #[.int .i64 x.op, .int .i64 x.n, .string x.s, .slice A1 x.kids.length c1] 61)) := (Below.refl _ _).alloc (Nat.le_refl _) _
      have R2 := (R.out.below hbw R.out.lt).alloc (.cells #[.int .i64 x.op, .int .i64 x.n, .string x.s, .slice A1 x.kids.length c1] 61)
      have hc2 := fun i => R2.cell i
      clear hbe h0 h1 h2 hs ht hlen e0
      go_enter Tryz.func77, Tryz.ntmps77
      go_wp2_with fail
      refine (ih x A1 c1 _ hxb (hx2.below E2 E2.size)).mono ?_
      rintro e w3 ⟨rfl, hb3⟩
      go_wp2_with fail
      go_ret
      exact ⟨rfl, E2.trans (hb3.mono E2.size)⟩
    have HH := Lib.hid HC
    have HS := Lib.hid (hs.below E.out E.out.size)
    clear HC ih hbe e0
    cases o1 : (t.op == 1)
    · skip
      cases o2 : (t.op == 2)
      · skip
        cases o3 : (t.op == 3)
        · skip
          cases o4 : (t.op == 4)
          · skip
            have hv := Lib.hid (show tidy1 vs t.op t.n t.s t.kids.length = false from by
              unfold tidy1; simp only [beq_iff_eq, beq_eq_false_iff_ne, ne_eq] at o1 o2 o3 o4; simp [o1, o2, o3, o4])
            go_enter Tryz.func60, Tryz.ntmps60
            go_wp2_with fail
            go_ret
            rw [← EQ.out]
            exact ⟨ret_bool (by rw [hte.out, hv.out]; rfl), E.out⟩
          · skip
            cases a : (t.n == 0)
            · skip
              have hv := Lib.hid (show tidy1 vs t.op t.n t.s t.kids.length = false from by
                unfold tidy1; simp only [beq_iff_eq, beq_eq_false_iff_ne, ne_eq] at o1 o2 o3 o4 a; simp [o1, o2, o3, o4, a])
              go_enter Tryz.func60, Tryz.ntmps60
              go_wp2_with fail
              go_ret
              rw [← EQ.out]
              exact ⟨ret_bool (by rw [hte.out, hv.out]; rfl), E.out⟩
            · skip
              cases cn : (conB t.s)
              · skip
                have hv := Lib.hid (show tidy1 vs t.op t.n t.s t.kids.length = false from by
                  unfold tidy1; simp only [beq_iff_eq, beq_eq_false_iff_ne, ne_eq] at o1 o2 o3 o4 a; simp [o1, o2, o3, o4, a, cn])
                have HCN := Lib.hid (fun (wx : World) => implConOk t.s wx hsz2)
                rw [cn] at HCN
                clear cn
                go_enter Tryz.func60, Tryz.ntmps60
                go_wp2_with (first | (go_at_call 56; refine (HCN.out _).mono ?_; rintro e w9 ⟨rfl, rfl⟩))
                go_ret
                rw [← EQ.out]
                exact ⟨ret_bool (by rw [hte.out, hv.out]; rfl), E.out⟩
              · skip
                have hv := Lib.hid (show tidy1 vs t.op t.n t.s t.kids.length = true from by
                  unfold tidy1; simp only [beq_iff_eq, beq_eq_false_iff_ne, ne_eq] at o1 o2 o3 o4 a; simp [o1, o2, o3, o4, a, cn])
                have HCN := Lib.hid (fun (wx : World) => implConOk t.s wx hsz2)
                rw [cn] at HCN
                clear cn
                go_enter Tryz.func60, Tryz.ntmps60
                go_wp2_with (first | (go_at_call 56; refine (HCN.out _).mono ?_; rintro e w9 ⟨rfl, rfl⟩))
                rw [← EQ.out]
                refine (containsFuncTy 77 (enters Tryz.func77 (by kernel_rfl) (by kernel_rfl)) #[.pointer (some ⟨w.heap.size + 1, 0, none⟩)] (fun x => !x.tidy vs) t.kids A1 c1 _ HS.out (fun x hx A2 c2 w2 hb2 hx2 => HH.out x hx A2 c2 w2 hx2 hb2)).mono ?_
                rintro e w1 ⟨rfl, hb1⟩
                go_wp2_with fail
                go_ret
                exact ⟨ret_bool (by rw [hte.out, hv.out, GTy.tidyL_any]; rfl), E.out.trans (hb1.mono E.out.size)⟩
        · skip
          cases a : (t.n == 0)
          · skip
            have hv := Lib.hid (show tidy1 vs t.op t.n t.s t.kids.length = false from by
              unfold tidy1; simp only [beq_iff_eq, beq_eq_false_iff_ne, ne_eq] at o1 o2 o3 a; simp [o1, o2, o3, a])
            go_enter Tryz.func60, Tryz.ntmps60
            go_wp2_with fail
            go_ret
            rw [← EQ.out]
            exact ⟨ret_bool (by rw [hte.out, hv.out]; rfl), E.out⟩
          · skip
            cases b : (t.s.toList.isEmpty)
            · skip
              have hv := Lib.hid (show tidy1 vs t.op t.n t.s t.kids.length = false from by
                unfold tidy1; simp only [beq_iff_eq, beq_eq_false_iff_ne, ne_eq] at o1 o2 o3 a; simp [o1, o2, o3, a, b])
              go_enter Tryz.func60, Tryz.ntmps60
              go_wp2_with fail
              go_ret
              rw [← EQ.out]
              exact ⟨ret_bool (by rw [hte.out, hv.out]; rfl), E.out⟩
            · skip
              by_cases hk : t.kids.length = 2
              · have hk1 : (t.kids.length == 2) = true := by simp [hk]
                have hk2 : ((t.kids.length : Int) == 2) = true := by rw [beq_iff_eq]; omega
                have hv := Lib.hid (show tidy1 vs t.op t.n t.s t.kids.length = true from by
                  unfold tidy1; simp only [beq_iff_eq, beq_eq_false_iff_ne, ne_eq] at o1 o2 o3 a; simp [o1, o2, o3, a, b, hk])
                have Hk := Lib.hid hk
                clear hk
                go_enter Tryz.func60, Tryz.ntmps60
                go_wp2_with fail
                rw [← EQ.out]
                refine (containsFuncTy 77 (enters Tryz.func77 (by kernel_rfl) (by kernel_rfl)) #[.pointer (some ⟨w.heap.size + 1, 0, none⟩)] (fun x => !x.tidy vs) t.kids A1 c1 _ HS.out (fun x hx A2 c2 w2 hb2 hx2 => HH.out x hx A2 c2 w2 hx2 hb2)).mono ?_
                rintro e w1 ⟨rfl, hb1⟩
                go_wp2_with fail
                go_ret
                exact ⟨ret_bool (by rw [hte.out, hv.out, GTy.tidyL_any]; rfl), E.out.trans (hb1.mono E.out.size)⟩
              · have hk1 : (t.kids.length == 2) = false := by simp [hk]
                have hk2 : ((t.kids.length : Int) == 2) = false := by rw [beq_eq_false_iff_ne]; omega
                have hv := Lib.hid (show tidy1 vs t.op t.n t.s t.kids.length = false from by
                  unfold tidy1; simp only [beq_iff_eq, beq_eq_false_iff_ne, ne_eq] at o1 o2 o3 a; simp [o1, o2, o3, a, b, hk])
                have Hk := Lib.hid hk
                clear hk
                go_enter Tryz.func60, Tryz.ntmps60
                go_wp2_with fail
                go_ret
                rw [← EQ.out]
                exact ⟨ret_bool (by rw [hte.out, hv.out]; rfl), E.out⟩
      · skip
        cases v : (inB t.n 0 (vs - 1))
        · skip
          have hv := Lib.hid (show tidy1 vs t.op t.n t.s t.kids.length = false from by
            unfold tidy1; simp only [beq_iff_eq, beq_eq_false_iff_ne, ne_eq] at o1 o2; simp [o1, o2, v])
          have HIN := Lib.hid (fun (wx : World) => implWithin t.n 0 (vs - 1) wx)
          rw [v] at HIN
          clear v
          go_enter Tryz.func60, Tryz.ntmps60
          go_wp2_with (first | (go_at_call 54; refine (HIN.out _).mono ?_; rintro e w9 ⟨rfl, rfl⟩))
          go_ret
          rw [← EQ.out]
          exact ⟨ret_bool (by rw [hte.out, hv.out]; rfl), E.out⟩
        · skip
          cases b : (t.s.toList.isEmpty)
          · skip
            have hv := Lib.hid (show tidy1 vs t.op t.n t.s t.kids.length = false from by
              unfold tidy1; simp only [beq_iff_eq, beq_eq_false_iff_ne, ne_eq] at o1 o2; simp [o1, o2, v, b])
            have HIN := Lib.hid (fun (wx : World) => implWithin t.n 0 (vs - 1) wx)
            rw [v] at HIN
            clear v
            go_enter Tryz.func60, Tryz.ntmps60
            go_wp2_with (first | (go_at_call 54; refine (HIN.out _).mono ?_; rintro e w9 ⟨rfl, rfl⟩))
            go_ret
            rw [← EQ.out]
            exact ⟨ret_bool (by rw [hte.out, hv.out]; rfl), E.out⟩
          · skip
            by_cases hk : t.kids.length = 0
            · have hk1 : (t.kids.length == 0) = true := by simp [hk]
              have hk2 : ((t.kids.length : Int) == 0) = true := by rw [beq_iff_eq]; omega
              have hv := Lib.hid (show tidy1 vs t.op t.n t.s t.kids.length = true from by
                unfold tidy1; simp only [beq_iff_eq, beq_eq_false_iff_ne, ne_eq] at o1 o2; simp [o1, o2, v, b, hk])
              have HIN := Lib.hid (fun (wx : World) => implWithin t.n 0 (vs - 1) wx)
              rw [v] at HIN
              clear v
              have Hk := Lib.hid hk
              clear hk
              go_enter Tryz.func60, Tryz.ntmps60
              go_wp2_with (first | (go_at_call 54; refine (HIN.out _).mono ?_; rintro e w9 ⟨rfl, rfl⟩))
              rw [← EQ.out]
              refine (containsFuncTy 77 (enters Tryz.func77 (by kernel_rfl) (by kernel_rfl)) #[.pointer (some ⟨w.heap.size + 1, 0, none⟩)] (fun x => !x.tidy vs) t.kids A1 c1 _ HS.out (fun x hx A2 c2 w2 hb2 hx2 => HH.out x hx A2 c2 w2 hx2 hb2)).mono ?_
              rintro e w1 ⟨rfl, hb1⟩
              go_wp2_with fail
              go_ret
              exact ⟨ret_bool (by rw [hte.out, hv.out, GTy.tidyL_any]; rfl), E.out.trans (hb1.mono E.out.size)⟩
            · have hk1 : (t.kids.length == 0) = false := by simp [hk]
              have hk2 : ((t.kids.length : Int) == 0) = false := by rw [beq_eq_false_iff_ne]; omega
              have hv := Lib.hid (show tidy1 vs t.op t.n t.s t.kids.length = false from by
                unfold tidy1; simp only [beq_iff_eq, beq_eq_false_iff_ne, ne_eq] at o1 o2; simp [o1, o2, v, b, hk])
              have HIN := Lib.hid (fun (wx : World) => implWithin t.n 0 (vs - 1) wx)
              rw [v] at HIN
              clear v
              have Hk := Lib.hid hk
              clear hk
              go_enter Tryz.func60, Tryz.ntmps60
              go_wp2_with (first | (go_at_call 54; refine (HIN.out _).mono ?_; rintro e w9 ⟨rfl, rfl⟩))
              go_ret
              rw [← EQ.out]
              exact ⟨ret_bool (by rw [hte.out, hv.out]; rfl), E.out⟩
    · skip
      cases a : (t.n == 0)
      · skip
        have hv := Lib.hid (show tidy1 vs t.op t.n t.s t.kids.length = false from by
          unfold tidy1; simp only [beq_iff_eq, beq_eq_false_iff_ne, ne_eq] at o1 a; simp [o1, a])
        go_enter Tryz.func60, Tryz.ntmps60
        go_wp2_with fail
        go_ret
        rw [← EQ.out]
        exact ⟨ret_bool (by rw [hte.out, hv.out]; rfl), E.out⟩
      · skip
        cases b : (t.s.toList.isEmpty)
        · skip
          have hv := Lib.hid (show tidy1 vs t.op t.n t.s t.kids.length = false from by
            unfold tidy1; simp only [beq_iff_eq, beq_eq_false_iff_ne, ne_eq] at o1 a; simp [o1, a, b])
          go_enter Tryz.func60, Tryz.ntmps60
          go_wp2_with fail
          go_ret
          rw [← EQ.out]
          exact ⟨ret_bool (by rw [hte.out, hv.out]; rfl), E.out⟩
        · skip
          by_cases hk : t.kids.length = 0
          · have hk1 : (t.kids.length == 0) = true := by simp [hk]
            have hk2 : ((t.kids.length : Int) == 0) = true := by rw [beq_iff_eq]; omega
            have hv := Lib.hid (show tidy1 vs t.op t.n t.s t.kids.length = true from by
              unfold tidy1; simp only [beq_iff_eq, beq_eq_false_iff_ne, ne_eq] at o1 a; simp [o1, a, b, hk])
            have Hk := Lib.hid hk
            clear hk
            go_enter Tryz.func60, Tryz.ntmps60
            go_wp2_with fail
            rw [← EQ.out]
            refine (containsFuncTy 77 (enters Tryz.func77 (by kernel_rfl) (by kernel_rfl)) #[.pointer (some ⟨w.heap.size + 1, 0, none⟩)] (fun x => !x.tidy vs) t.kids A1 c1 _ HS.out (fun x hx A2 c2 w2 hb2 hx2 => HH.out x hx A2 c2 w2 hx2 hb2)).mono ?_
            rintro e w1 ⟨rfl, hb1⟩
            go_wp2_with fail
            go_ret
            exact ⟨ret_bool (by rw [hte.out, hv.out, GTy.tidyL_any]; rfl), E.out.trans (hb1.mono E.out.size)⟩
          · have hk1 : (t.kids.length == 0) = false := by simp [hk]
            have hk2 : ((t.kids.length : Int) == 0) = false := by rw [beq_eq_false_iff_ne]; omega
            have hv := Lib.hid (show tidy1 vs t.op t.n t.s t.kids.length = false from by
              unfold tidy1; simp only [beq_iff_eq, beq_eq_false_iff_ne, ne_eq] at o1 a; simp [o1, a, b, hk])
            have Hk := Lib.hid hk
            clear hk
            go_enter Tryz.func60, Tryz.ntmps60
            go_wp2_with fail
            go_ret
            rw [← EQ.out]
            exact ⟨ret_bool (by rw [hte.out, hv.out]; rfl), E.out⟩

theorem specTypeTidy (vs : Int) (hv0 : 0 ≤ vs) (hv1 : vs ≤ 26) (k : Nat) : ∀ (t : GTy) (A1 : Option Addr) (c1 : Nat) (w : World), t.bulk < k → GTy.At w (Lt w.heap.size) A1 c1 t →
    Calls Tryz.prog 24 #[.agg #[.int .i64 t.op, .int .i64 t.n, .string t.s, .slice A1 t.kids.length c1], .int .i64 vs] w fun e w' => e = .returned (.bool (t.tidy vs)) ∧ Below w.heap.size w w' := by
  induction k with
  | zero => intro t A1 c1 w h; omega
  | succ k ih =>
    intro t A1 c1 w hk0 ht
    obtain ⟨h0, h1, h2, hs⟩ := id ht
    have hsz2 : t.s.size ≤ 9223372036854775807 := by unfold maxLen at h2; omega
    have hlen : t.kids.length ≤ 9223372036854775807 := by simpa using hs.len
    have hte := Lib.hid (t.tidy_eq vs)
    have hbe := t.bulk_eq
    go_enter Tryz.func24, Tryz.ntmps24
    go_wp2_with fail
    go_loopw [5] (fun i wr => ∃ j : Nat, j ≤ t.kids.length ∧ i = .int .i64 j ∧ (t.kids.take j).all (GTy.tidy vs) = true ∧ Below w.heap.size w wr ∧ Row wr w.heap.size 61 #[.int .i64 t.op, .int .i64 t.n, .string t.s, .slice A1 t.kids.length c1]) (fun i _ => t.kids.length - (intOf i).toNat)
    case atStart => exact ⟨0, by omega, by go_num, by simp, (Below.refl _ _).alloc (Nat.le_refl _) _, Row.new _ _ _⟩
    case round =>
      obtain ⟨j, hj, rfl, hall, hbl, hrow⟩ := hrel
      have Hall := Lib.hid hall
      clear hall
      have hsz := hbl.size
      have hgl := hrow.lt
      have hc := fun i => hrow.cell i
      by_cases hlt : j < t.kids.length
      · have htr := GTy.elem (hs.below hbl (Nat.le_refl _)) j hlt
        obtain ⟨b, off, A2, c2, rfl, hSb, g0, g1, g2, g3, hat⟩ := htr
        have hmem : t.kids[j] ∈ t.kids := List.getElem_mem hlt
        have hxb : (t.kids[j]).bulk < k := by have := bulkL_mem GTy.bulk t.kids _ hmem; omega
        clear hbe
        go_wp2_with fail
        refine (ih _ A2 c2 _ hxb (hat.below (Below.refl _ _) hsz)).mono ?_
        rintro e w1 ⟨rfl, hb1⟩
        cases he : (t.kids[j]).tidy vs
        · have hn := Lib.hid (show t.kids.all (GTy.tidy vs) = false from by rw [← Bool.not_eq_true]; intro h; have := List.all_eq_true.1 h _ hmem; rw [he] at this; cases this)
          clear he
          go_wp2_with fail
          go_ret
          exact ⟨ret_bool (by rw [hte.out, GTy.tidyL_all, hn.out]; simp), hbl.trans (hb1.mono hsz)⟩
        · have he2 := Lib.hid he
          clear he
          go_wp2_with fail
          go_roundw
          case rel => exact ⟨j + 1, by omega, by go_num, by rw [take_snoc' _ j hlt, List.all_append, Hall.out]; simp [he2.out], hbl.trans (hb1.mono hsz), hrow.below hb1 hgl⟩
          case measure => simp [intOf]; omega
      · have hjl : j = t.kids.length := by omega
        have hko := Lib.hid (show GTy.tidyL vs t.kids = true from by rw [GTy.tidyL_all]; have := Hall.out; rwa [hjl, List.take_length] at this)
        clear hjl ih hbe Hall
        cases o1 : (t.op == 1)
        · skip
          cases o2 : (t.op == 2)
          · skip
            cases o3 : (t.op == 3)
            · skip
              cases o4 : (t.op == 4)
              · skip
                have hv := Lib.hid (show tidy1 vs t.op t.n t.s t.kids.length = false from by
                  unfold tidy1; simp only [beq_iff_eq, beq_eq_false_iff_ne, ne_eq] at o1 o2 o3 o4; simp [o1, o2, o3, o4])
                go_wp2_with fail
                go_ret
                exact ⟨ret_bool (by rw [hte.out, hv.out, hko.out]; rfl), hbl⟩
              · skip
                cases a : (t.n == 0)
                · skip
                  have hv := Lib.hid (show tidy1 vs t.op t.n t.s t.kids.length = false from by
                    unfold tidy1; simp only [beq_iff_eq, beq_eq_false_iff_ne, ne_eq] at o1 o2 o3 o4 a; simp [o1, o2, o3, o4, a])
                  go_wp2_with fail
                  go_ret
                  exact ⟨ret_bool (by rw [hte.out, hv.out, hko.out]; rfl), hbl⟩
                · skip
                  cases cn : (conB t.s)
                  · skip
                    have hv := Lib.hid (show tidy1 vs t.op t.n t.s t.kids.length = false from by
                      unfold tidy1; simp only [beq_iff_eq, beq_eq_false_iff_ne, ne_eq] at o1 o2 o3 o4 a; simp [o1, o2, o3, o4, a, cn])
                    have HCN := Lib.hid (fun (wx : World) => specCon t.s wx hsz2)
                    rw [cn] at HCN
                    clear cn
                    go_wp2_with (first | (go_at_call 21; refine (HCN.out _).mono ?_; rintro e w9 ⟨rfl, rfl⟩))
                    go_ret
                    exact ⟨ret_bool (by rw [hte.out, hv.out, hko.out]; rfl), hbl⟩
                  · skip
                    have hv := Lib.hid (show tidy1 vs t.op t.n t.s t.kids.length = true from by
                      unfold tidy1; simp only [beq_iff_eq, beq_eq_false_iff_ne, ne_eq] at o1 o2 o3 o4 a; simp [o1, o2, o3, o4, a, cn])
                    have HCN := Lib.hid (fun (wx : World) => specCon t.s wx hsz2)
                    rw [cn] at HCN
                    clear cn
                    go_wp2_with (first | (go_at_call 21; refine (HCN.out _).mono ?_; rintro e w9 ⟨rfl, rfl⟩))
                    go_ret
                    exact ⟨ret_bool (by rw [hte.out, hv.out, hko.out]; rfl), hbl⟩
            · skip
              cases a : (t.n == 0)
              · skip
                have hv := Lib.hid (show tidy1 vs t.op t.n t.s t.kids.length = false from by
                  unfold tidy1; simp only [beq_iff_eq, beq_eq_false_iff_ne, ne_eq] at o1 o2 o3 a; simp [o1, o2, o3, a])
                go_wp2_with fail
                go_ret
                exact ⟨ret_bool (by rw [hte.out, hv.out, hko.out]; rfl), hbl⟩
              · skip
                cases b : (t.s.toList.isEmpty)
                · skip
                  have hv := Lib.hid (show tidy1 vs t.op t.n t.s t.kids.length = false from by
                    unfold tidy1; simp only [beq_iff_eq, beq_eq_false_iff_ne, ne_eq] at o1 o2 o3 a; simp [o1, o2, o3, a, b])
                  go_wp2_with fail
                  go_ret
                  exact ⟨ret_bool (by rw [hte.out, hv.out, hko.out]; rfl), hbl⟩
                · skip
                  by_cases hk : t.kids.length = 2
                  · have hk1 : (t.kids.length == 2) = true := by simp [hk]
                    have hk2 : ((t.kids.length : Int) == 2) = true := by rw [beq_iff_eq]; omega
                    have hv := Lib.hid (show tidy1 vs t.op t.n t.s t.kids.length = true from by
                      unfold tidy1; simp only [beq_iff_eq, beq_eq_false_iff_ne, ne_eq] at o1 o2 o3 a; simp [o1, o2, o3, a, b, hk])
                    have Hk := Lib.hid hk
                    clear hk
                    go_wp2_with fail
                    go_ret
                    exact ⟨ret_bool (by rw [hte.out, hv.out, hko.out]; rfl), hbl⟩
                  · have hk1 : (t.kids.length == 2) = false := by simp [hk]
                    have hk2 : ((t.kids.length : Int) == 2) = false := by rw [beq_eq_false_iff_ne]; omega
                    have hv := Lib.hid (show tidy1 vs t.op t.n t.s t.kids.length = false from by
                      unfold tidy1; simp only [beq_iff_eq, beq_eq_false_iff_ne, ne_eq] at o1 o2 o3 a; simp [o1, o2, o3, a, b, hk])
                    have Hk := Lib.hid hk
                    clear hk
                    go_wp2_with fail
                    go_ret
                    exact ⟨ret_bool (by rw [hte.out, hv.out, hko.out]; rfl), hbl⟩
          · skip
            cases v : (inB t.n 0 (vs - 1))
            · skip
              have hv := Lib.hid (show tidy1 vs t.op t.n t.s t.kids.length = false from by
                unfold tidy1; simp only [beq_iff_eq, beq_eq_false_iff_ne, ne_eq] at o1 o2; simp [o1, o2, v])
              have HIN := Lib.hid (fun (wx : World) => specIn t.n 0 (vs - 1) wx)
              rw [v] at HIN
              clear v
              go_wp2_with (first | (go_at_call 22; refine (HIN.out _).mono ?_; rintro e w9 ⟨rfl, rfl⟩))
              go_ret
              exact ⟨ret_bool (by rw [hte.out, hv.out, hko.out]; rfl), hbl⟩
            · skip
              cases b : (t.s.toList.isEmpty)
              · skip
                have hv := Lib.hid (show tidy1 vs t.op t.n t.s t.kids.length = false from by
                  unfold tidy1; simp only [beq_iff_eq, beq_eq_false_iff_ne, ne_eq] at o1 o2; simp [o1, o2, v, b])
                have HIN := Lib.hid (fun (wx : World) => specIn t.n 0 (vs - 1) wx)
                rw [v] at HIN
                clear v
                go_wp2_with (first | (go_at_call 22; refine (HIN.out _).mono ?_; rintro e w9 ⟨rfl, rfl⟩))
                go_ret
                exact ⟨ret_bool (by rw [hte.out, hv.out, hko.out]; rfl), hbl⟩
              · skip
                by_cases hk : t.kids.length = 0
                · have hk1 : (t.kids.length == 0) = true := by simp [hk]
                  have hk2 : ((t.kids.length : Int) == 0) = true := by rw [beq_iff_eq]; omega
                  have hv := Lib.hid (show tidy1 vs t.op t.n t.s t.kids.length = true from by
                    unfold tidy1; simp only [beq_iff_eq, beq_eq_false_iff_ne, ne_eq] at o1 o2; simp [o1, o2, v, b, hk])
                  have HIN := Lib.hid (fun (wx : World) => specIn t.n 0 (vs - 1) wx)
                  rw [v] at HIN
                  clear v
                  have Hk := Lib.hid hk
                  clear hk
                  go_wp2_with (first | (go_at_call 22; refine (HIN.out _).mono ?_; rintro e w9 ⟨rfl, rfl⟩))
                  go_ret
                  exact ⟨ret_bool (by rw [hte.out, hv.out, hko.out]; rfl), hbl⟩
                · have hk1 : (t.kids.length == 0) = false := by simp [hk]
                  have hk2 : ((t.kids.length : Int) == 0) = false := by rw [beq_eq_false_iff_ne]; omega
                  have hv := Lib.hid (show tidy1 vs t.op t.n t.s t.kids.length = false from by
                    unfold tidy1; simp only [beq_iff_eq, beq_eq_false_iff_ne, ne_eq] at o1 o2; simp [o1, o2, v, b, hk])
                  have HIN := Lib.hid (fun (wx : World) => specIn t.n 0 (vs - 1) wx)
                  rw [v] at HIN
                  clear v
                  have Hk := Lib.hid hk
                  clear hk
                  go_wp2_with (first | (go_at_call 22; refine (HIN.out _).mono ?_; rintro e w9 ⟨rfl, rfl⟩))
                  go_ret
                  exact ⟨ret_bool (by rw [hte.out, hv.out, hko.out]; rfl), hbl⟩
        · skip
          cases a : (t.n == 0)
          · skip
            have hv := Lib.hid (show tidy1 vs t.op t.n t.s t.kids.length = false from by
              unfold tidy1; simp only [beq_iff_eq, beq_eq_false_iff_ne, ne_eq] at o1 a; simp [o1, a])
            go_wp2_with fail
            go_ret
            exact ⟨ret_bool (by rw [hte.out, hv.out, hko.out]; rfl), hbl⟩
          · skip
            cases b : (t.s.toList.isEmpty)
            · skip
              have hv := Lib.hid (show tidy1 vs t.op t.n t.s t.kids.length = false from by
                unfold tidy1; simp only [beq_iff_eq, beq_eq_false_iff_ne, ne_eq] at o1 a; simp [o1, a, b])
              go_wp2_with fail
              go_ret
              exact ⟨ret_bool (by rw [hte.out, hv.out, hko.out]; rfl), hbl⟩
            · skip
              by_cases hk : t.kids.length = 0
              · have hk1 : (t.kids.length == 0) = true := by simp [hk]
                have hk2 : ((t.kids.length : Int) == 0) = true := by rw [beq_iff_eq]; omega
                have hv := Lib.hid (show tidy1 vs t.op t.n t.s t.kids.length = true from by
                  unfold tidy1; simp only [beq_iff_eq, beq_eq_false_iff_ne, ne_eq] at o1 a; simp [o1, a, b, hk])
                have Hk := Lib.hid hk
                clear hk
                go_wp2_with fail
                go_ret
                exact ⟨ret_bool (by rw [hte.out, hv.out, hko.out]; rfl), hbl⟩
              · have hk1 : (t.kids.length == 0) = false := by simp [hk]
                have hk2 : ((t.kids.length : Int) == 0) = false := by rw [beq_eq_false_iff_ne]; omega
                have hv := Lib.hid (show tidy1 vs t.op t.n t.s t.kids.length = false from by
                  unfold tidy1; simp only [beq_iff_eq, beq_eq_false_iff_ne, ne_eq] at o1 a; simp [o1, a, b, hk])
                have Hk := Lib.hid hk
                clear hk
                go_wp2_with fail
                go_ret
                exact ⟨ret_bool (by rw [hte.out, hv.out, hko.out]; rfl), hbl⟩

end Go.Proofs.YtgbcdfeflgnogaaGreat
