/- Coverage by rows of patterns: what both compute, and rows in memory (no program in sight). Conditions: none. -/
import Derived.Test.YtgbcdfeflgnogaaGrx
import Derived.Test.YtgbcdfeflgnogaaGNode
import Derived.Test.YtgbcdfeflgnogaaGData
import Derived.Test.YtgbcdfeflgnogaaConOf
import Derived.Test.YtgbcdfeflgnogaaHas
namespace Go.Proofs.Ytgbcdfeflgnogaa
open Go.RowKit
set_option linter.unusedVariables false
set_option linter.unusedSimpArgs false

/-- anything -/
def anyN : GNode := .mk 17 0 ByteArray.empty ByteArray.empty []
def isAnyB (p : GNode) : Bool := p.op != 20 && p.op != 19
def alikeB (q p : GNode) : Bool := q.op == p.op && q.s.toList == p.s.toList && q.n == p.n && q.kids.length == p.kids.length
def into1 (p : GNode) : List GNode → Option (List GNode)
  | [] => none
  | q :: t => if isAnyB q = true then some (List.replicate p.kids.length anyN ++ t) else if alikeB q p = true then some (q.kids ++ t) else none
def intoR (p : GNode) (rows : List (List GNode)) : List (List GNode) := rows.filterMap (into1 p)
def rest1 : List GNode → Option (List GNode)
  | [] => none
  | q :: t => if isAnyB q = true then some t else none
def restR (rows : List (List GNode)) : List (List GNode) := rows.filterMap rest1
def hd (r : List GNode) : GNode := r.headD anyN
def headIs (s : ByteArray) (r : List GNode) : Bool := (hd r).op == 20 && (hd r).s.toList == s.toList
def dataStep (ds : List GData) (a : Int) (r : List GNode) : Int := if a < 0 ∧ (hd r).op = 20 then (conI (conOf (hd r).s ds 0)).1 else a
def dataAt (ds : List GData) (rows : List (List GNode)) : Int := rows.foldl (dataStep ds) (-1)
def conN (c : GCon) : GNode := .mk 20 0 c.name ByteArray.empty (List.replicate c.args.length anyN)
def allIn (rows : List (List GNode)) (cs : List GCon) : Bool := cs.all fun c => rows.any (headIs c.name)
def allR (ds : List GData) (rows : List (List GNode)) : Option (List GNode) :=
  if dataAt ds rows < 0 then none else match ds[(dataAt ds rows).toNat]? with
    | none => none
    | some d => if allIn rows d.cons = true then some (d.cons.map conN) else none
def useAll (g : Nat → List (List GNode) → List GNode → Bool × Nat) (rows : List (List GNode)) (t : List GNode) : List GNode → Nat → Bool × Nat
  | [], s => (false, s)
  | a :: r, s => if (g s (intoR a rows) (List.replicate a.kids.length anyN ++ t)).1 = true then g s (intoR a rows) (List.replicate a.kids.length anyN ++ t) else useAll g rows t r (g s (intoR a rows) (List.replicate a.kids.length anyN ++ t)).2
def useF (ds : List GData) : Nat → Nat → List (List GNode) → List GNode → Bool × Nat
  | 0, s, _, _ => (true, s + 1)
  | f + 1, s, rows, row => if 4000 < s + 1 then (true, s + 1) else match row with
    | [] => (rows.isEmpty, s + 1)
    | p :: t => if isAnyB p = true then (match allR ds rows with
        | none => useF ds f (s + 1) (restR rows) t
        | some all => useAll (useF ds f) rows t all (s + 1))
      else useF ds f (s + 1) (intoR p rows) (p.kids ++ t)
/-- is a row useful behind others -/
def usefulV (ds : List GData) (rows : List (List GNode)) (row : List GNode) : Bool := (rows.all fun r => r.length == row.length) && (useF ds 4001 0 rows row).1
def patOf (a : GNode) : GNode := hd a.kids
def missingV (ds : List GData) (alts : List GNode) : Bool := usefulV ds (alts.map fun a => [patOf a]) [anyN]
def idleV (ds : List GData) (alts : List GNode) : Int := idxI (fun i => !usefulV ds ((alts.take i).map fun a => [patOf a]) [patOf (alts.getD i anyN)]) (List.range alts.length)

theorem into1_cons (p q : GNode) (t : List GNode) : into1 p (q :: t) = if isAnyB q = true then some (List.replicate p.kids.length anyN ++ t) else if alikeB q p = true then some (q.kids ++ t) else none := rfl
theorem rest1_cons (q : GNode) (t : List GNode) : rest1 (q :: t) = if isAnyB q = true then some t else none := rfl
theorem dataAt_snoc (ds : List GData) {rows : List (List GNode)} {j : Nat} (h : j < rows.length) : dataAt ds (rows.take (j + 1)) = dataStep ds (dataAt ds (rows.take j)) rows[j] := by
  unfold dataAt; rw [take_snoc' rows j h, List.foldl_append]; rfl
theorem dataStep_stay {ds : List GData} {a : Int} (h : 0 ≤ a) (r : List GNode) : dataStep ds a r = a := by unfold dataStep; rw [if_neg (fun e => by omega)]
theorem foldl_stay {ds : List GData} {a : Int} (h : 0 ≤ a) : ∀ l : List (List GNode), l.foldl (dataStep ds) a = a
  | [] => rfl
  | r :: t => by rw [List.foldl_cons, dataStep_stay h, foldl_stay h t]
theorem dataAt_stay {ds : List GData} {rows : List (List GNode)} {j : Nat} (h : 0 ≤ dataAt ds (rows.take j)) : dataAt ds rows = dataAt ds (rows.take j) := by
  conv => lhs; rw [← List.take_append_drop j rows]
  unfold dataAt at h ⊢
  rw [List.foldl_append, foldl_stay h]

/-- sizes: no pattern's part is bigger than M -/
def nodeB (M : Nat) (x : GNode) : Prop := x.bulk ≤ M
theorem nodeB.kids {M : Nat} {x : GNode} (h : nodeB M x) : ∀ k ∈ x.kids, nodeB M k := fun k hk => by
  obtain ⟨i, hi, rfl⟩ := List.getElem_of_mem hk
  have h1 := (bulkV_next GNode.bulk hi).2
  have h2 := (bulkV_next GNode.bulk hi).1
  have h3 := x.bulk_eq
  unfold nodeB at *
  omega
theorem nodeB.len {M : Nat} {x : GNode} (h : nodeB M x) : x.kids.length ≤ M := by
  have h1 := bulkL_len GNode.bulk x.kids
  have h3 := x.bulk_eq
  unfold nodeB at h
  omega
theorem anyN_bulk : anyN.bulk = 0 := by rw [GNode.bulk_eq]; rfl
theorem rep_bulk : ∀ n : Nat, bulkL GNode.bulk (List.replicate n anyN) = n
  | 0 => rfl
  | n + 1 => by rw [List.replicate_succ]; simp only [bulkL, anyN_bulk, rep_bulk n]; omega
theorem anyN_B (M : Nat) : nodeB M anyN := by unfold nodeB; rw [anyN_bulk]; omega
/-- rows of one length, their parts bounded -/
def RowsB (M n : Nat) (rows : List (List GNode)) : Prop := ∀ r ∈ rows, r.length = n ∧ ∀ x ∈ r, nodeB M x
theorem into1_len {M n : Nat} {p q : GNode} {t r : List GNode} (h : into1 p (q :: t) = some r) (hl : (q :: t).length = n + 1) : r.length = p.kids.length + n := by
  rw [into1_cons] at h
  simp only [List.length_cons, Nat.add_right_cancel_iff] at hl
  split at h
  · simp only [Option.some.injEq] at h; subst h; simp [hl]
  · split at h
    · rename_i e
      unfold alikeB at e
      simp only [Bool.and_eq_true, beq_iff_eq] at e
      simp only [Option.some.injEq] at h; subst h; simp [hl, e.2]
    · cases h
theorem RowsB.into {M n : Nat} {rows : List (List GNode)} (h : RowsB M (n + 1) rows) (p : GNode) : RowsB M (p.kids.length + n) (intoR p rows) := fun r hr => by
  unfold intoR at hr
  obtain ⟨r0, h0, e⟩ := List.mem_filterMap.1 hr
  obtain ⟨h1, h2⟩ := h r0 h0
  obtain ⟨q, t, rfl⟩ := List.exists_cons_of_length_pos (l := r0) (by omega)
  refine ⟨into1_len (M := M) e h1, fun x hx => ?_⟩
  rw [into1_cons] at e
  split at e
  · simp only [Option.some.injEq] at e; subst e
    rcases List.mem_append.1 hx with hx | hx
    · rw [(List.mem_replicate.1 hx).2]; exact anyN_B M
    · exact h2 x (by simp [hx])
  · split at e
    · simp only [Option.some.injEq] at e; subst e
      rcases List.mem_append.1 hx with hx | hx
      · exact (h2 q (by simp)).kids x hx
      · exact h2 x (by simp [hx])
    · cases e
theorem RowsB.rest {M n : Nat} {rows : List (List GNode)} (h : RowsB M (n + 1) rows) : RowsB M n (restR rows) := fun r hr => by
  unfold restR at hr
  obtain ⟨r0, h0, e⟩ := List.mem_filterMap.1 hr
  obtain ⟨h1, h2⟩ := h r0 h0
  obtain ⟨q, t, rfl⟩ := List.exists_cons_of_length_pos (l := r0) (by omega)
  rw [rest1_cons] at e
  split at e
  · simp only [Option.some.injEq] at e; subst e
    exact ⟨by simpa using h1, fun x hx => h2 x (by simp [hx])⟩
  · cases e

/-- a row as data -/
def rowD (r : List GNode) : D := .sl 5 (r.map GNode.toD)
theorem rowD_elem {w : World} {S : Nat → Prop} {A : Option Addr} {c : Nat} {rows : List (List GNode)} (h : Sl w S 1 A c (rows.map rowD)) (i : Nat) (hi : i < rows.length) :
    ∃ b off A1 c1, A = some ⟨b, off, none⟩ ∧ S b ∧ w.cell? ⟨b, off + i, none⟩ = some (.slice A1 rows[i].length c1) ∧ Sl w S 5 A1 c1 (rows[i].map GNode.toD) := by
  obtain ⟨b, off, cs, e, hb, hl, hc, hr⟩ := Sl.get h i (by simpa using hi)
  rw [List.getElem_map] at hr
  obtain ⟨A1, c1, rfl, h1⟩ := D.rd_sl.1 hr
  have := hc 0 _ rfl
  simp only [Nat.mul_one, Nat.add_zero, List.length_map] at this
  exact ⟨b, off, A1, c1, e, hb, this, h1⟩
/-- the first of a row, and the rest -/
theorem row_head {w : World} {S : Nat → Prop} {A : Option Addr} {c : Nat} {q : GNode} {t : List GNode} (h : Sl w S 5 A c ((q :: t).map GNode.toD)) :
    ∃ b off A1 c1, A = some ⟨b, off, none⟩ ∧ S b ∧ t.length + 1 ≤ c ∧ c ≤ maxLen ∧ w.cell? ⟨b, off, none⟩ = some (.int .i64 q.op) ∧ w.cell? ⟨b, off + 1, none⟩ = some (.int .i64 q.n) ∧ w.cell? ⟨b, off + 2, none⟩ = some (.string q.s) ∧ w.cell? ⟨b, off + 3, none⟩ = some (.string q.t) ∧ w.cell? ⟨b, off + 4, none⟩ = some (.slice A1 q.kids.length c1) ∧ GNode.At w S A1 c1 q ∧
      Sl w S 5 (some ⟨b, off + 5, none⟩) (c - 1) (t.map GNode.toD) ∧ (c = 1 → Sl w S 5 (some ⟨b, off, none⟩) 0 (t.map GNode.toD)) := by
  obtain ⟨b, off, A1, c1, rfl, hS, h0, h1, h2, h3, h4, hat⟩ := GNode.elem h 0 (by simp)
  have hd := Sl.drop h 1 (by simp)
  have hlc := h.1
  simp only [List.map_cons, List.length_cons, List.length_map] at hlc
  simp only [Nat.zero_mul, Nat.add_zero, List.getElem_cons_zero, Nat.one_mul, List.map_cons, List.drop_succ_cons, List.drop_zero] at h0 h1 h2 h3 h4 hat hd
  exact ⟨b, off, A1, c1, rfl, hS, hlc, h.2.1, h0, h1, h2, h3, h4, hat, hd, fun e => by
    have : t = [] := List.eq_nil_of_length_eq_zero (by omega)
    subst this; exact Sl.nil (Nat.zero_le _)⟩
/-- one datum in a row of its own -/
theorem slOne {w : World} {S : Nat → Prop} {g size : Nat} {T : TypeId} {cs : List Value} {d : D} (hr : Row w g T cs.toArray) (hd : d.rd w S cs) (hl : cs.length = size) (hg : S g) : Sl w S size (some ⟨g, 0, none⟩) 1 [d] := by
  refine ⟨by simp, by unfold maxLen; omega, .inr ⟨g, 0, rfl, hg, ?_⟩⟩
  refine rdC_row [d] cs 0 (fun j v hj => ?_) ?_
  · rw [Nat.zero_add, hr.cell]; simpa using hj
  · simp only [rdC]; exact ⟨cs, [], by simp, hl, hd, rfl⟩
theorem slOneRow {w : World} {S : Nat → Prop} {g : Nat} {T : TypeId} {A : Option Addr} {c : Nat} {r : List GNode} (hr : Row w g T #[.slice A r.length c]) (hs : Sl w S 5 A c (r.map GNode.toD)) (hg : S g) : Sl w S 1 (some ⟨g, 0, none⟩) 1 ([r].map rowD) :=
  slOne (cs := [.slice A r.length c]) hr (by unfold rowD; rw [D.rd_sl]; exact ⟨A, c, by simp, hs⟩) rfl hg
theorem anyN_rd (w : World) (S : Nat → Prop) (c : Nat) (hc : c ≤ maxLen) (A : Option Addr) : anyN.toD.rd w S [.int .i64 17, .int .i64 0, .string ByteArray.empty, .string ByteArray.empty, .slice A 0 c] :=
  GNode.rd_mk (t := anyN) ⟨by decide, by decide, by decide, by decide, Sl.nil hc⟩

/-- where data may lie: what is there, but not in what X bars -/
def Lx (X : Nat → Prop) (w : World) : Nat → Prop := fun b => b < w.heap.size ∧ X b
theorem Sl.lx {X : Nat → Prop} {w w' : World} {size : Nat} {A : Option Addr} {c : Nat} {xs : List D} (h : Sl w (Lx X w) size A c xs) (hb : Below w.heap.size w w') : Sl w' (Lx X w') size A c xs := h.keep fun b hb' => ⟨⟨Nat.lt_of_lt_of_le hb'.1 hb.size, hb'.2⟩, hb.block b hb'.1⟩
theorem Sl.lt {X : Nat → Prop} {w : World} {size : Nat} {A : Option Addr} {c : Nat} {xs : List D} (h : Sl w (Lx X w) size A c xs) : Sl w (Lt w.heap.size) size A c xs := h.keep fun b hb => ⟨hb.1, rfl⟩
theorem GNode.At.lx {X : Nat → Prop} {w w' : World} {A : Option Addr} {c : Nat} {t : GNode} (h : GNode.At w (Lx X w) A c t) (hb : Below w.heap.size w w') : GNode.At w' (Lx X w') A c t := h.keep fun b hb' => ⟨⟨Nat.lt_of_lt_of_le hb'.1 hb.size, hb'.2⟩, hb.block b hb'.1⟩
/-- a list of patterns that a call hands back; rows of them -/
def LTo (X : Nat → Prop) (xs : List GNode) (w : World) (e : Ending) (w' : World) : Prop := ∃ A c, e = .returned (.slice A xs.length c) ∧ Sl w' (Lx X w') 5 A c (xs.map GNode.toD) ∧ Below w.heap.size w w'
def RTo (X : Nat → Prop) (rows : List (List GNode)) (w : World) (e : Ending) (w' : World) : Prop := ∃ A c, e = .returned (.slice A rows.length c) ∧ Sl w' (Lx X w') 1 A c (rows.map rowD) ∧ Below w.heap.size w w'
end Go.Proofs.Ytgbcdfeflgnogaa
