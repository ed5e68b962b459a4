/- Several texts of this claim in one: GCon GData ConTag FCon. Conditions: none but bounds on sizes. -/
import Derived.Test.YtgbcdfeflgnogaaGreatMg0
import Derived.Test.YtgbcdfeflgnogaaGreatMg4
import Derived.Test.YtgbcdfeflgnogaaGreatRows
import Derived.Lib.Hide
import Derived.Test.YtgbcdfeflgnogaaGreatMg2
/- The data of the Go struct Con: how it lies in memory (no program in sight). Conditions: none. -/
namespace Go.Proofs.YtgbcdfeflgnogaaGreat
open Go.RowKit
set_option linter.unusedVariables false
set_option linter.unusedSimpArgs false

structure GCon where
  name : ByteArray
  args : List GTy

def GCon.toD (x : GCon) : D := .agg [.str x.name, .sl 4 (x.args.map GTy.toD)]

/-- how much it holds, as the laws count it -/
def GCon.bulk (x : GCon) : Nat := x.name.size + bulkL GTy.bulk x.args

theorem GCon.bulk_eq (t : GCon) : t.bulk = t.name.size + bulkL GTy.bulk t.args := rfl

/-- the facts of a struct that lies in memory: its cells are .string t.name, .slice A1 t.args.length c1 -/
def GCon.At (w : World) (S : Nat → Prop) (A1 : Option Addr) (c1 : Nat) (t : GCon) : Prop :=
  t.name.size ≤ maxLen ∧ Sl w S 4 A1 c1 (t.args.map GTy.toD)

theorem GCon.rd {w : World} {S : Nat → Prop} {t : GCon} {cs : List Value} (h : t.toD.rd w S cs) : ∃ A1 c1, cs = [.string t.name, .slice A1 t.args.length c1] ∧ GCon.At w S A1 c1 t := by
  unfold GCon.toD at h
  rw [D.rd_agg] at h
  rw [D.rdF_cons] at h
  obtain ⟨x0, r0, rfl, k0, h⟩ := h
  obtain ⟨rfl, h0⟩ := D.rd_str.1 k0
  rw [D.rdF_cons] at h
  obtain ⟨x1, r1, rfl, k1, h⟩ := h
  obtain ⟨A1, c1, rfl, h1⟩ := D.rd_sl.1 k1
  obtain rfl := D.rdF_nil.1 h
  exact ⟨A1, c1, by simp [List.length_map], h0, h1⟩

theorem GCon.rd_mk {w : World} {S : Nat → Prop} {t : GCon} {A1 : Option Addr} {c1 : Nat} (h : GCon.At w S A1 c1 t) : t.toD.rd w S [.string t.name, .slice A1 t.args.length c1] := by
  unfold GCon.toD
  unfold GCon.At at h
  obtain ⟨h0, h1⟩ := h
  rw [D.rd_agg]
  exact D.rdF_cons.2 ⟨[_], [_], rfl, D.rd_str.2 ⟨rfl, h0⟩, D.rdF_cons.2 ⟨[_], [], rfl, D.rd_sl.2 ⟨A1, c1, by simp [List.length_map], h1⟩, D.rdF_nil.2 rfl⟩⟩

theorem GCon.elem {w : World} {S : Nat → Prop} {A : Option Addr} {c : Nat} {l : List GCon} (h : Sl w S 2 A c (l.map GCon.toD)) (i : Nat) (hi : i < l.length) :
    ∃ b off A1 c1, A = some ⟨b, off, none⟩ ∧ S b ∧ w.cell? ⟨b, off + i * 2, none⟩ = some (.string l[i].name) ∧ w.cell? ⟨b, off + i * 2 + 1, none⟩ = some (.slice A1 l[i].args.length c1) ∧ GCon.At w S A1 c1 l[i] := by
  obtain ⟨b, off, cs, e, hb, hl, hc, hr⟩ := Sl.get h i (by simpa using hi)
  rw [List.getElem_map] at hr
  obtain ⟨A1, c1, rfl, h1⟩ := GCon.rd hr
  exact ⟨b, off, A1, c1, e, hb, hc 0 _ rfl, hc 1 _ rfl, h1⟩

theorem GCon.At.keep {w w' : World} {S S' : Nat → Prop} {t : GCon} {A1 : Option Addr} {c1 : Nat} (h : GCon.At w S A1 c1 t) (hk : ∀ b, S b → S' b ∧ w'.heap[b]? = w.heap[b]?) : GCon.At w' S' A1 c1 t := by
  unfold GCon.At at h ⊢
  obtain ⟨h0, h1⟩ := h
  exact ⟨h0, h1.keep hk⟩
theorem GCon.At.below {w w' : World} {B B' : Nat} {t : GCon} {A1 : Option Addr} {c1 : Nat} (h : GCon.At w (Lt B) A1 c1 t) (hb : Below B w w') (hB : B ≤ B') : GCon.At w' (Lt B') A1 c1 t :=
  h.keep (keep_below hb hB)

/-- the same, owned -/
def GCon.Ow (w : World) (S : Nat → Prop) (A1 : Option Addr) (c1 : Nat) (t : GCon) : Prop :=
  t.name.size ≤ maxLen ∧ Osl w S 4 A1 c1 (t.args.map GTy.toD)

theorem GCon.own_mk {w : World} {S : Nat → Prop} {t : GCon} {A1 : Option Addr} {c1 : Nat} (h : GCon.Ow w S A1 c1 t) : t.toD.own w S [.string t.name, .slice A1 t.args.length c1] := by
  unfold GCon.toD
  unfold GCon.Ow at h
  obtain ⟨h0, h1⟩ := h
  rw [D.own_agg]
  exact D.ownF_plain (c1 := [_]) (c2 := [_]) (D.own_str.2 ⟨rfl, h0⟩) (D.ownF_last (D.own_sl.2 ⟨A1, c1, by simp [List.length_map], h1⟩))

theorem GCon.Ow.keep {w w' : World} {S S' : Nat → Prop} {t : GCon} {A1 : Option Addr} {c1 : Nat} (h : GCon.Ow w S A1 c1 t) (hk : ∀ b, S b → S' b ∧ w'.heap[b]? = w.heap[b]?) : GCon.Ow w' S' A1 c1 t := by
  unfold GCon.Ow at h ⊢
  obtain ⟨h0, h1⟩ := h
  exact ⟨h0, h1.keep hk⟩
theorem GCon.Ow.at {w : World} {S : Nat → Prop} {t : GCon} {A1 : Option Addr} {c1 : Nat} (h : GCon.Ow w S A1 c1 t) : GCon.At w S A1 c1 t := by
  unfold GCon.Ow at h
  unfold GCon.At
  obtain ⟨h0, h1⟩ := h
  exact ⟨h0, h1.sl⟩

end Go.Proofs.YtgbcdfeflgnogaaGreat

/- The data of the Go struct Data: how it lies in memory (no program in sight). Conditions: none. -/
namespace Go.Proofs.YtgbcdfeflgnogaaGreat
open Go.RowKit
set_option linter.unusedVariables false
set_option linter.unusedSimpArgs false

structure GData where
  name : ByteArray
  vars : Int
  cons : List GCon

def GData.toD (x : GData) : D := .agg [.str x.name, .num .i64 x.vars, .sl 2 (x.cons.map GCon.toD)]

/-- how much it holds, as the laws count it -/
def GData.bulk (x : GData) : Nat := x.name.size + bulkL GCon.bulk x.cons

theorem GData.bulk_eq (t : GData) : t.bulk = t.name.size + bulkL GCon.bulk t.cons := rfl

/-- the facts of a struct that lies in memory: its cells are .string t.name, .int .i64 t.vars, .slice A1 t.cons.length c1 -/
def GData.At (w : World) (S : Nat → Prop) (A1 : Option Addr) (c1 : Nat) (t : GData) : Prop :=
  t.name.size ≤ maxLen ∧ (Lit.int .i64 t.vars).wf = true ∧ Sl w S 2 A1 c1 (t.cons.map GCon.toD)

theorem GData.rd {w : World} {S : Nat → Prop} {t : GData} {cs : List Value} (h : t.toD.rd w S cs) : ∃ A1 c1, cs = [.string t.name, .int .i64 t.vars, .slice A1 t.cons.length c1] ∧ GData.At w S A1 c1 t := by
  unfold GData.toD at h
  rw [D.rd_agg] at h
  rw [D.rdF_cons] at h
  obtain ⟨x0, r0, rfl, k0, h⟩ := h
  obtain ⟨rfl, h0⟩ := D.rd_str.1 k0
  rw [D.rdF_cons] at h
  obtain ⟨x1, r1, rfl, k1, h⟩ := h
  obtain ⟨rfl, h1⟩ := D.rd_num.1 k1
  rw [D.rdF_cons] at h
  obtain ⟨x2, r2, rfl, k2, h⟩ := h
  obtain ⟨A1, c1, rfl, h2⟩ := D.rd_sl.1 k2
  obtain rfl := D.rdF_nil.1 h
  exact ⟨A1, c1, by simp [List.length_map], h0, h1, h2⟩

theorem GData.rd_mk {w : World} {S : Nat → Prop} {t : GData} {A1 : Option Addr} {c1 : Nat} (h : GData.At w S A1 c1 t) : t.toD.rd w S [.string t.name, .int .i64 t.vars, .slice A1 t.cons.length c1] := by
  unfold GData.toD
  unfold GData.At at h
  obtain ⟨h0, h1, h2⟩ := h
  rw [D.rd_agg]
  exact D.rdF_cons.2 ⟨[_], [_, _], rfl, D.rd_str.2 ⟨rfl, h0⟩, D.rdF_cons.2 ⟨[_], [_], rfl, D.rd_num.2 ⟨rfl, h1⟩, D.rdF_cons.2 ⟨[_], [], rfl, D.rd_sl.2 ⟨A1, c1, by simp [List.length_map], h2⟩, D.rdF_nil.2 rfl⟩⟩⟩

theorem GData.elem {w : World} {S : Nat → Prop} {A : Option Addr} {c : Nat} {l : List GData} (h : Sl w S 3 A c (l.map GData.toD)) (i : Nat) (hi : i < l.length) :
    ∃ b off A1 c1, A = some ⟨b, off, none⟩ ∧ S b ∧ w.cell? ⟨b, off + i * 3, none⟩ = some (.string l[i].name) ∧ w.cell? ⟨b, off + i * 3 + 1, none⟩ = some (.int .i64 l[i].vars) ∧ w.cell? ⟨b, off + i * 3 + 2, none⟩ = some (.slice A1 l[i].cons.length c1) ∧ GData.At w S A1 c1 l[i] := by
  obtain ⟨b, off, cs, e, hb, hl, hc, hr⟩ := Sl.get h i (by simpa using hi)
  rw [List.getElem_map] at hr
  obtain ⟨A1, c1, rfl, h1⟩ := GData.rd hr
  exact ⟨b, off, A1, c1, e, hb, hc 0 _ rfl, hc 1 _ rfl, hc 2 _ rfl, h1⟩

theorem GData.At.keep {w w' : World} {S S' : Nat → Prop} {t : GData} {A1 : Option Addr} {c1 : Nat} (h : GData.At w S A1 c1 t) (hk : ∀ b, S b → S' b ∧ w'.heap[b]? = w.heap[b]?) : GData.At w' S' A1 c1 t := by
  unfold GData.At at h ⊢
  obtain ⟨h0, h1, h2⟩ := h
  exact ⟨h0, h1, h2.keep hk⟩
theorem GData.At.below {w w' : World} {B B' : Nat} {t : GData} {A1 : Option Addr} {c1 : Nat} (h : GData.At w (Lt B) A1 c1 t) (hb : Below B w w') (hB : B ≤ B') : GData.At w' (Lt B') A1 c1 t :=
  h.keep (keep_below hb hB)

/-- the same, owned -/
def GData.Ow (w : World) (S : Nat → Prop) (A1 : Option Addr) (c1 : Nat) (t : GData) : Prop :=
  t.name.size ≤ maxLen ∧ (Lit.int .i64 t.vars).wf = true ∧ Osl w S 2 A1 c1 (t.cons.map GCon.toD)

theorem GData.own_mk {w : World} {S : Nat → Prop} {t : GData} {A1 : Option Addr} {c1 : Nat} (h : GData.Ow w S A1 c1 t) : t.toD.own w S [.string t.name, .int .i64 t.vars, .slice A1 t.cons.length c1] := by
  unfold GData.toD
  unfold GData.Ow at h
  obtain ⟨h0, h1, h2⟩ := h
  rw [D.own_agg]
  exact D.ownF_plain (c1 := [_]) (c2 := [_, _]) (D.own_str.2 ⟨rfl, h0⟩) (D.ownF_plain (c1 := [_]) (c2 := [_]) (D.own_num.2 ⟨rfl, h1⟩) (D.ownF_last (D.own_sl.2 ⟨A1, c1, by simp [List.length_map], h2⟩)))

theorem GData.Ow.keep {w w' : World} {S S' : Nat → Prop} {t : GData} {A1 : Option Addr} {c1 : Nat} (h : GData.Ow w S A1 c1 t) (hk : ∀ b, S b → S' b ∧ w'.heap[b]? = w.heap[b]?) : GData.Ow w' S' A1 c1 t := by
  unfold GData.Ow at h ⊢
  obtain ⟨h0, h1, h2⟩ := h
  exact ⟨h0, h1, h2.keep hk⟩
theorem GData.Ow.at {w : World} {S : Nat → Prop} {t : GData} {A1 : Option Addr} {c1 : Nat} (h : GData.Ow w S A1 c1 t) : GData.At w S A1 c1 t := by
  unfold GData.Ow at h
  unfold GData.At
  obtain ⟨h0, h1, h2⟩ := h
  exact ⟨h0, h1, h2.sl⟩

end Go.Proofs.YtgbcdfeflgnogaaGreat

/- ConTag. Conditions: what the list holds is at most 1048576. -/
namespace Go.Proofs.YtgbcdfeflgnogaaGreat
open Go.RowKit
set_option linter.unusedVariables false
set_option linter.unusedSimpArgs false
set_option maxHeartbeats 1000000

theorem name_ne {a b : ByteArray} (h : ¬ a = b) : (a.toList == b.toList) = false := by
  rw [beq_eq_false_iff_ne]; intro e; apply h; rw [ByteArray.toList_eq, ByteArray.toList_eq] at e; exact ByteArray.ext (Array.toList_inj.1 e)

/-- the tag of a con among the cons of one data; n: how many came before -/
def tagIn (s : ByteArray) : List GCon → Nat → Option Nat
  | [], _ => none
  | c :: r, n => if c.name = s then some n else tagIn s r (n + 1)
/-- the tag of a con -/
def tagOf (s : ByteArray) : List GData → Nat → Option Nat
  | [], _ => none
  | d :: r, n => match tagIn s d.cons n with
    | some x => some x
    | none => tagOf s r (n + d.cons.length)
def tagI : Option Nat → Int
  | some n => n
  | none => -1
/-- how many cons there are -/
def consN : List GData → Nat | [] => 0 | d :: r => d.cons.length + consN r

theorem tagIn_hit {s : ByteArray} {l : List GCon} {k n : Nat} (h : k < l.length) (e : l[k].name = s) : tagIn s (l.drop k) n = some n := by
  rw [List.drop_eq_getElem_cons h, tagIn, if_pos e]
theorem tagIn_miss {s : ByteArray} {l : List GCon} {k n : Nat} (h : k < l.length) (e : ¬ l[k].name = s) : tagIn s (l.drop k) n = tagIn s (l.drop (k + 1)) (n + 1) := by
  rw [List.drop_eq_getElem_cons h, tagIn, if_neg e]
theorem tagOf_hit {s : ByteArray} {l : List GData} {j n m : Nat} (h : j < l.length) (e : tagIn s l[j].cons n = some m) : tagOf s (l.drop j) n = some m := by
  rw [List.drop_eq_getElem_cons h, tagOf, e]
theorem tagOf_miss {s : ByteArray} {l : List GData} {j n : Nat} (h : j < l.length) (e : tagIn s l[j].cons n = none) : tagOf s (l.drop j) n = tagOf s (l.drop (j + 1)) (n + l[j].cons.length) := by
  rw [List.drop_eq_getElem_cons h, tagOf, e]
theorem consN_drop {l : List GData} {j : Nat} (h : j < l.length) : consN (l.drop j) = l[j].cons.length + consN (l.drop (j + 1)) := by
  rw [List.drop_eq_getElem_cons h, consN]
theorem consN_bulk (l : List GData) : consN l ≤ bulkL GData.bulk l := by
  induction l with
  | nil => simp [consN]
  | cons t r ih =>
    simp only [consN, bulkL]
    have := bulkL_len GCon.bulk t.cons
    have e := t.bulk_eq
    omega

end Go.Proofs.YtgbcdfeflgnogaaGreat

/- slices.IndexFunc and slices.ContainsFunc at Con, with whatever predicate that only makes memory of its own. Conditions: none. -/
namespace Go.Proofs.YtgbcdfeflgnogaaGreat
open Go.RowKit
set_option linter.unusedVariables false
set_option linter.unusedSimpArgs false
set_option maxHeartbeats 400000

theorem indexFuncCon (K : Nat) (hK : ∀ (args : Array Value) (w : World), (callFunc K args).run Tryz.prog w = .ok (.enter K args) w) (caps : Array Value) (p : GCon → Bool) (l : List GCon) (A : Option Addr) (c : Nat) (w : World) (hs : Sl w (Lt w.heap.size) 2 A c (l.map GCon.toD))
    (H : ∀ x, x ∈ l → ∀ (A1 : Option Addr) (c1 : Nat) (w2 : World), Below w.heap.size w w2 → GCon.At w2 (Lt w2.heap.size) A1 c1 x →
      Calls Tryz.prog K (#[.agg #[.string x.name, .slice A1 x.args.length c1]] ++ caps) w2 fun e w' => e = .returned (.bool (p x)) ∧ Below w2.heap.size w2 w') :
    Calls Tryz.prog 111 #[.slice A l.length c, .func (.func K) #[] caps] w fun e w' => e = .returned (.int .i64 (idxI p l)) ∧ Below w.heap.size w w' := by
  have hlen : l.length ≤ 9223372036854775807 := by simpa using hs.len
  have HH := Lib.hid H
  clear H
  go_enter Tryz.func111, Tryz.ntmps111
  go_wp2_with fail
  go_loopw [8] (fun i wr => ∃ j : Nat, j ≤ l.length ∧ i = .int .i64 j ∧ noneTo p l j ∧ Below w.heap.size w wr) (fun i _ => l.length - (intOf i).toNat)
  case atStart => exact ⟨0, by omega, by go_num, noneTo_zero p l, Below.refl _ _⟩
  case round =>
    obtain ⟨j, hj, rfl, hno, hbl⟩ := hrel
    have Hno := Lib.hid hno
    clear hno
    have hsz := hbl.size
    by_cases hlt : j < l.length
    · have htr := GCon.elem (hs.below hbl (Nat.le_refl _)) j hlt
      obtain ⟨b, off, A1, c1, rfl, hSb, g0, g1, hat⟩ := htr
      have hmem : l[j] ∈ l := List.getElem_mem hlt
      go_wp2_with fail
      refine (HH.out _ hmem _ _ _ hbl (hat.below (Below.refl _ _) hsz)).mono ?_
      rintro e w1 ⟨rfl, hb1⟩
      cases he : p l[j]
      · have hn := Lib.hid (noneTo_succ Hno.out hlt he)
        go_wp2_with fail
        go_roundw
        case rel => exact ⟨j + 1, by omega, by go_num, hn.out, hbl.trans (hb1.mono hsz)⟩
        case measure => simp [intOf]; omega
      · have hn := Lib.hid (idxI_at Hno.out hlt he)
        go_wp2_with fail
        go_ret
        exact ⟨ret_int hn.out.symm, hbl.trans (hb1.mono hsz)⟩
    · have hjl : j = l.length := by omega
      have Hj := Lib.hid hjl
      clear hjl
      go_wp2_with fail
      go_ret
      exact ⟨ret_int (idxI_none (by have := Hno.out; rw [Hj.out] at this; exact this)).symm, hbl⟩


end Go.Proofs.YtgbcdfeflgnogaaGreat
