/- Several texts of this claim in one: RowI Vars Has CoverP. Conditions: none but bounds on sizes. -/
import Derived.Test.YtgbcdfeflgnogaaGreatMg4
import Derived.Test.YtgbcdfeflgnogaaGreatMg6
import Derived.Test.YtgbcdfeflgnogaaGreatMg2
import Derived.Lib.Hide
import Derived.Test.YtgbcdfeflgnogaaGreatMg5
/- Rows of numbers, and growing slices cut by one (no program in sight). Conditions: none. -/
namespace Go.Proofs.YtgbcdfeflgnogaaGreat
open Go.RowKit
set_option linter.unusedVariables false
set_option linter.unusedSimpArgs false

/-- the cells of a list of numbers -/
def rowI (l : List Int) : Array Value := (l.map (Value.int .i64)).toArray
theorem rowI_get {l : List Int} {k : Nat} (h : k < l.length) : (rowI l)[k]? = some (.int .i64 l[k]) := by
  unfold rowI; simp [h]
theorem rowI_set (l : List Int) (k : Nat) (d : Int) : (rowI l).setIfInBounds k (.int .i64 d) = rowI (l.set k d) := by
  unfold rowI; rw [List.map_set]; simp
theorem rowI_size (l : List Int) : (rowI l).size = l.length := by unfold rowI; simp
theorem zr_int (n : Nat) : zr (.int .i64 0) 1 n = rowI (List.replicate n 0) := by
  unfold zr rowI madeCells
  apply Array.ext
  · simp [Value.cells]
  · intro i h1 h2
    have e : i % 1 = 0 := Nat.mod_one i
    simp [Value.cells, e]
theorem wf_i64 {n : Int} (h1 : -9223372036854775808 ≤ n) (h2 : n ≤ 9223372036854775807) : (Lit.int .i64 n).wf = true := by
  simp [Lit.wf, IntKind.min, IntKind.max, IntKind.signed, IntKind.bits]; omega
theorem rowI_ownR {w : World} {b : Nat} : ∀ (l : List Int) (S : Nat → Prop) (off : Nat), (∀ x ∈ l, (Lit.int .i64 x).wf = true) → (∀ k (h : k < l.length), w.cell? ⟨b, off + k, none⟩ = some (.int .i64 l[k])) → D.ownR w 1 b (l.map (D.num .i64)) S off
  | [], _, _, _, _ => by simp only [List.map_nil, D.ownR]
  | x :: r, S, off, hw, hc => by
    simp only [List.map_cons, D.ownR]
    refine ⟨fun _ => False, S, [.int .i64 x], fun _ h => h.elim, fun _ h => h, rfl, fun j v hj => ?_, D.own_num.2 ⟨rfl, hw x (by simp)⟩, rowI_ownR r S (off + 1) (fun y hy => hw y (by simp [hy])) fun k h => ?_⟩
    · match j with
      | 0 => have := hc 0 (by simp); simp at hj; subst hj; simpa using this
      | j + 1 => simp at hj
    · have := hc (k + 1) (by simpa using h)
      rw [show off + 1 + k = off + (k + 1) by omega]
      simpa using this
theorem rowI_osl {w : World} {g B : Nat} {t : TypeId} {l : List Int} (h : Row w g t (rowI l)) (hB : B ≤ g) (hl : l.length ≤ maxLen) (hw : ∀ x ∈ l, (Lit.int .i64 x).wf = true) : Osl w (Btw B w.heap.size) 1 (some ⟨g, 0, none⟩) l.length (l.map (D.num .i64)) :=
  ⟨by simp, hl, .inr ⟨g, rfl, ⟨hB, h.lt⟩, fun o => h.frozen o, rowI_ownR l _ 0 hw fun k hk => by rw [Nat.zero_add, h.cell, rowI_get hk]⟩⟩
theorem rowI_sl {w : World} {g : Nat} {t : TypeId} {l : List Int} (h : Row w g t (rowI l)) (hl : l.length ≤ maxLen) (hw : ∀ x ∈ l, (Lit.int .i64 x).wf = true) : Sl w (Lt w.heap.size) 1 (some ⟨g, 0, none⟩) l.length (l.map (D.num .i64)) :=
  ((rowI_osl (B := 0) h (by omega) hl hw).sl).keep fun b hb => ⟨hb.2, rfl⟩

theorem rdC_len {w : World} {size : Nat} {S : Nat → Prop} : ∀ (xs : List D) (cs : List Value), rdC w size S xs cs → cs.length = xs.length * size
  | [], cs, h => by simp only [rdC] at h; simp [h]
  | d :: r, cs, h => by
    simp only [rdC] at h
    obtain ⟨c1, c2, rfl, hl, _, h2⟩ := h
    have := rdC_len r c2 h2
    rw [List.length_append, hl, this, List.length_cons, Nat.add_mul]; omega
theorem rdC_init {w : World} {size : Nat} {S : Nat → Prop} {d : D} : ∀ (xs : List D) (cs : List Value), rdC w size S (xs ++ [d]) cs → ∃ c1 c2, cs = c1 ++ c2 ∧ rdC w size S xs c1
  | [], cs, h => ⟨[], cs, rfl, rfl⟩
  | x :: r, cs, h => by
    simp only [List.cons_append, rdC] at h
    obtain ⟨c1, c2, rfl, hl, h1, h2⟩ := h
    obtain ⟨e1, e2, rfl, h3⟩ := rdC_init r c2 h2
    refine ⟨c1 ++ e1, e2, by simp, ?_⟩
    simp only [rdC]
    exact ⟨c1, e1, rfl, hl, h1, h3⟩
/-- the last element cut off -/
theorem Gsh.pop {w : World} {B : Nat} {e : TypeId} {size : Nat} {A : Option Addr} {c n : Nat} {d : D} {xs : List D} (h : Gsh w B e size (.slice A (n + 1) c) (n + 1) (xs ++ [d])) : Gsh w B e size (.slice A n c) n xs := by
  obtain ⟨h1, cs, h2, h4⟩ := h
  have hx : xs.length = n := by simpa using h1
  obtain ⟨c1, c2, rfl, h5⟩ := rdC_init xs cs h4
  have hc1 := rdC_len _ _ h5
  refine ⟨hx, c1, ⟨by rw [hc1, hx], ?_⟩, h5⟩
  rcases h2.2 with ⟨_, h⟩ | ⟨g, cap, cur, hv, a1, a2, a3, a4, a5, a6⟩
  · omega
  · simp only [Value.slice.injEq] at hv
    obtain ⟨rfl, _, rfl⟩ := hv
    refine .inr ⟨g, c, cur, rfl, a1, a2, by omega, a4, a5, ?_⟩
    have e1 : (c1 ++ c2).take (n * size) = c1 := by rw [← hx, ← hc1]; simp
    rw [← a6, List.take_take] at e1
    rwa [Nat.min_eq_left (by rw [Nat.add_mul]; omega)] at e1
/-- a slice that was just laid -/
theorem Gsh.laid {w : World} {B g : Nat} {e : TypeId} {size : Nat} {cs : Array Value} {n : Nat} {xs : List D} (hr : Row w g e cs) (hB : B ≤ g) (hx : rdC w size (Lt B) xs cs.toList) (hn : xs.length = n) (hm : n ≤ maxLen) : Gsh w B e size (.slice (some ⟨g, 0, none⟩) n n) n xs := by
  have hl := rdC_len _ _ hx
  rw [hn] at hl
  exact ⟨hn, cs.toList, ⟨hl, .inr ⟨g, n, cs, rfl, hB, hr, Nat.le_refl _, hm, by simpa using hl, by rw [← hl]; exact List.take_length⟩⟩, hx⟩
theorem rdC_int {w : World} {S : Nat → Prop} : ∀ (l : List Int), (∀ x ∈ l, (Lit.int .i64 x).wf = true) → rdC w 1 S (l.map (D.num .i64)) (l.map (Value.int .i64))
  | [], _ => rfl
  | x :: r, h => by
    simp only [List.map_cons, rdC]
    exact ⟨[.int .i64 x], r.map (Value.int .i64), rfl, rfl, D.rd_num.2 ⟨rfl, h x (by simp)⟩, rdC_int r fun y hy => h y (by simp [hy])⟩
end Go.Proofs.YtgbcdfeflgnogaaGreat

/- The vars of a type: as they are met, and ascending. Conditions: none but a bound on the sizes. -/
namespace Go.Proofs.YtgbcdfeflgnogaaGreat
open Go.RowKit
set_option linter.unusedVariables false
set_option linter.unusedSimpArgs false
set_option maxHeartbeats 2000000

/-- a number put into an ascending list, once -/
def ins (n : Int) : List Int → List Int
  | [] => [n]
  | x :: r => if x < n then x :: ins n r else if x = n then x :: r else n :: x :: r
theorem ins_at {n : Int} : ∀ {l : List Int} {j : Nat}, j ≤ l.length → (∀ k (h : k < l.length), k < j → l[k] < n) → ins n l = l.take j ++ ins n (l.drop j)
  | l, 0, _, _ => by simp
  | [], j + 1, h, _ => by simp at h
  | x :: r, j + 1, h, hk => by
    have h0 := hk 0 (by simp) (by omega)
    simp only [List.getElem_cons_zero] at h0
    have ih := ins_at (n := n) (l := r) (j := j) (by simpa using h) (fun k h1 h2 => by have := hk (k + 1) (by simpa using h1) (by omega); simpa using this)
    simp only [ins, if_pos h0, List.take_succ_cons, List.drop_succ_cons, List.cons_append, ih]
theorem ins_here {n : Int} {l : List Int} {j : Nat} (hj : j < l.length) (hk : ∀ k (h : k < l.length), k < j → l[k] < n) (e : l[j] = n) : ins n l = l := by
  rw [ins_at (j := j) (by omega) hk, List.drop_eq_getElem_cons hj, ins, if_neg (by omega), if_pos e, ← List.drop_eq_getElem_cons hj, List.take_append_drop]
theorem ins_new {n : Int} {l : List Int} {j : Nat} (hj : j ≤ l.length) (hk : ∀ k (h : k < l.length), k < j → l[k] < n) (e : ∀ h : j < l.length, n < l[j]) : ins n l = l.take j ++ n :: l.drop j := by
  rw [ins_at hj hk]
  congr 1
  by_cases h : j < l.length
  · have := e h
    rw [List.drop_eq_getElem_cons h, ins, if_neg (by omega), if_neg (by omega)]
  · rw [List.drop_of_length_le (by omega)]; rfl
theorem ins_len (n : Int) : ∀ l : List Int, (ins n l).length ≤ l.length + 1
  | [] => by simp [ins]
  | x :: r => by have := ins_len n r; simp only [ins]; split; simp; omega; split <;> simp
theorem ins_mem {n a : Int} : ∀ {l : List Int}, a ∈ ins n l ↔ a ∈ l ∨ a = n
  | [] => by simp [ins]
  | x :: r => by
    simp only [ins]
    split
    · simp only [List.mem_cons, ins_mem (l := r), or_assoc]
    · split
      · rename_i h; subst h; simp only [List.mem_cons]; constructor
        · exact .inl
        · rintro (h | rfl); exact h; exact .inl rfl
      · simp only [List.mem_cons]; constructor
        · rintro (h | h); exact .inr h; exact .inl h
        · rintro (h | h); exact .inr h; exact .inl h
theorem ins_asc {n : Int} : ∀ {l : List Int}, l.Pairwise (· < ·) → (ins n l).Pairwise (· < ·)
  | [], _ => by simp [ins]
  | x :: r, h => by
    rw [List.pairwise_cons] at h
    simp only [ins]
    split
    · rename_i h1
      rw [List.pairwise_cons]
      refine ⟨fun a ha => ?_, ins_asc h.2⟩
      rcases ins_mem.1 ha with h2 | rfl
      · exact h.1 a h2
      · exact h1
    · split
      · rw [List.pairwise_cons]; exact h
      · rename_i h1 h2
        rw [List.pairwise_cons]
        refine ⟨fun a ha => ?_, List.pairwise_cons.2 h⟩
        rcases List.mem_cons.1 ha with rfl | ha
        · omega
        · have := h.1 a ha; omega

mutual
/-- the vars of a type, ascending, put into a list -/
def GTy.vs : GTy → List Int → List Int | .mk op n s kids, xs => GTy.vsL kids (if op = 2 then ins n xs else xs)
def GTy.vsL : List GTy → List Int → List Int | [], xs => xs | t :: r, xs => GTy.vsL r (t.vs xs)
end
mutual
/-- the vars of a type as they are met, behind a list -/
def GTy.vi : GTy → List Int → List Int | .mk op n s kids, xs => GTy.viL kids (if op = 2 ∧ xs.any (fun x => x == n) = false then xs ++ [n] else xs)
def GTy.viL : List GTy → List Int → List Int | [], xs => xs | t :: r, xs => GTy.viL r (t.vi xs)
end
theorem GTy.vs_eq (t : GTy) (xs : List Int) : t.vs xs = GTy.vsL t.kids (if t.op = 2 then ins t.n xs else xs) := by cases t; rw [GTy.vs]; rfl
theorem GTy.vi_eq (t : GTy) (xs : List Int) : t.vi xs = GTy.viL t.kids (if t.op = 2 ∧ xs.any (fun x => x == t.n) = false then xs ++ [t.n] else xs) := by cases t; rw [GTy.vi]; rfl
theorem GTy.vsL_snoc (t : GTy) : ∀ (l : List GTy) (xs : List Int), GTy.vsL (l ++ [t]) xs = t.vs (GTy.vsL l xs)
  | [], xs => by simp [GTy.vsL]
  | x :: r, xs => by simp only [List.cons_append, GTy.vsL, GTy.vsL_snoc t r]
theorem GTy.viL_snoc (t : GTy) : ∀ (l : List GTy) (xs : List Int), GTy.viL (l ++ [t]) xs = t.vi (GTy.viL l xs)
  | [], xs => by simp [GTy.viL]
  | x :: r, xs => by simp only [List.cons_append, GTy.viL, GTy.viL_snoc t r]
theorem GTy.vsL_take {l : List GTy} {j : Nat} (h : j < l.length) (xs : List Int) : GTy.vsL (l.take (j + 1)) xs = (l[j]).vs (GTy.vsL (l.take j) xs) := by rw [take_snoc' l j h, GTy.vsL_snoc]
theorem GTy.viL_take {l : List GTy} {j : Nat} (h : j < l.length) (xs : List Int) : GTy.viL (l.take (j + 1)) xs = (l[j]).vi (GTy.viL (l.take j) xs) := by rw [take_snoc' l j h, GTy.viL_snoc]
mutual
theorem GTy.vs_len : ∀ (t : GTy) (xs : List Int), (t.vs xs).length ≤ xs.length + 1 + t.bulk
  | .mk op n s kids, xs => by
    rw [GTy.vs]
    have h := GTy.vsL_len kids (if op = 2 then ins n xs else xs)
    have h1 : (if op = 2 then ins n xs else xs).length ≤ xs.length + 1 := by split; exact ins_len n xs; omega
    have h2 := (GTy.mk op n s kids).bulk_eq
    simp only [GTy.kids] at h2
    omega
theorem GTy.vsL_len : ∀ (l : List GTy) (xs : List Int), (GTy.vsL l xs).length ≤ xs.length + bulkL GTy.bulk l
  | [], xs => by simp [GTy.vsL, bulkL]
  | t :: r, xs => by
    rw [GTy.vsL]
    have h1 := GTy.vs_len t xs
    have h2 := GTy.vsL_len r (t.vs xs)
    simp only [bulkL]; omega
end
mutual
theorem GTy.vi_len : ∀ (t : GTy) (xs : List Int), (t.vi xs).length ≤ xs.length + 1 + t.bulk
  | .mk op n s kids, xs => by
    rw [GTy.vi]
    have h := GTy.viL_len kids (if op = 2 ∧ xs.any (fun x => x == n) = false then xs ++ [n] else xs)
    have h1 : (if op = 2 ∧ xs.any (fun x => x == n) = false then xs ++ [n] else xs).length ≤ xs.length + 1 := by split <;> simp
    have h2 := (GTy.mk op n s kids).bulk_eq
    simp only [GTy.kids] at h2
    omega
theorem GTy.viL_len : ∀ (l : List GTy) (xs : List Int), (GTy.viL l xs).length ≤ xs.length + bulkL GTy.bulk l
  | [], xs => by simp [GTy.viL, bulkL]
  | t :: r, xs => by
    rw [GTy.viL]
    have h1 := GTy.vi_len t xs
    have h2 := GTy.viL_len r (t.vi xs)
    simp only [bulkL]; omega
end
/-- the one list ascends, the other holds each once; both hold the same -/
def SameAs (xs ys : List Int) : Prop := xs.Pairwise (· < ·) ∧ ys.Nodup ∧ ∀ a, a ∈ xs ↔ a ∈ ys
mutual
theorem GTy.same : ∀ (t : GTy) (xs ys : List Int), SameAs xs ys → SameAs (t.vs xs) (t.vi ys)
  | .mk op n s kids, xs, ys, h => by
    rw [GTy.vs, GTy.vi]
    refine GTy.sameL kids _ _ ?_
    by_cases ho : op = 2
    · rw [if_pos ho]
      by_cases ha : ys.any (fun x => x == n) = false
      · rw [if_pos ⟨ho, ha⟩]
        have hn : ¬ n ∈ ys := fun hm => by
          have := List.any_eq_false.1 ha n hm; simp at this
        refine ⟨ins_asc h.1, ?_, fun a => ?_⟩
        · rw [List.nodup_append]; exact ⟨h.2.1, by simp, fun a h3 b hb e => by simp at hb; subst hb; subst e; exact hn h3⟩
        · rw [ins_mem, h.2.2]; simp
      · rw [if_neg (fun e => ha e.2)]
        have hm : n ∈ ys := by
          have : ys.any (fun x => x == n) = true := by simpa using ha
          obtain ⟨x, hx, e⟩ := List.any_eq_true.1 this
          obtain rfl : x = n := by simpa using e
          exact hx
        refine ⟨ins_asc h.1, h.2.1, fun a => ?_⟩
        rw [ins_mem, h.2.2]
        constructor
        · rintro (h1 | rfl); exact h1; exact hm
        · exact .inl
    · rw [if_neg ho, if_neg (fun e => ho e.1)]; exact h
theorem GTy.sameL : ∀ (l : List GTy) (xs ys : List Int), SameAs xs ys → SameAs (GTy.vsL l xs) (GTy.viL l ys)
  | [], xs, ys, h => h
  | t :: r, xs, ys, h => by rw [GTy.vsL, GTy.viL]; exact GTy.sameL r _ _ (GTy.same t xs ys h)
end
theorem asc_one : ∀ {xs ys : List Int}, xs.Pairwise (· < ·) → ys.Pairwise (· < ·) → (∀ a, a ∈ xs ↔ a ∈ ys) → xs = ys
  | [], [], _, _, _ => rfl
  | [], y :: r, _, _, h => by have := (h y).2 (by simp); simp at this
  | x :: r, [], _, _, h => by have := (h x).1 (by simp); simp at this
  | x :: r, y :: q, hx, hy, h => by
    rw [List.pairwise_cons] at hx hy
    have e : x = y := by
      rcases List.mem_cons.1 ((h x).1 (by simp)) with e | e
      · exact e
      · rcases List.mem_cons.1 ((h y).2 (by simp)) with e2 | e2
        · exact e2.symm
        · have := hx.1 y e2; have := hy.1 x e; omega
    subst e
    congr 1
    refine asc_one hx.2 hy.2 fun a => ?_
    constructor
    · intro ha
      rcases List.mem_cons.1 ((h a).1 (by simp [ha])) with e | e
      · subst e; have := hx.1 _ ha; omega
      · exact e
    · intro ha
      rcases List.mem_cons.1 ((h a).2 (by simp [ha])) with e | e
      · subst e; have := hy.1 _ ha; omega
      · exact e
/-- sorted, they are the ascending ones -/
theorem SameAs.sorted {xs ys : List Int} (h : SameAs xs ys) : (ys.mergeSort fun x y => decide (x ≤ y)) = xs := by
  have hp := List.mergeSort_perm ys (fun x y => decide (x ≤ y))
  refine asc_one ?_ h.1 fun a => by rw [hp.mem_iff]; exact (h.2.2 a).symm
  have hs := List.pairwise_mergeSort (le := fun (x y : Int) => decide (x ≤ y)) (fun a b c h1 h2 => by simp at *; omega) (fun a b => by simp; omega) ys
  have hn : (ys.mergeSort fun x y => decide (x ≤ y)).Nodup := hp.nodup_iff.2 h.2.1
  have hand := List.Pairwise.and hs hn
  exact hand.imp fun h => by obtain ⟨a, b⟩ := h; simp at a; omega

/-- a list of one's own that a call hands back -/
def VTo (B : Nat) (xs : List Int) (w : World) (e : Ending) (w' : World) : Prop := ∃ A c, e = .returned (.slice A xs.length c) ∧ Gre w' B 3 1 (.slice A xs.length c) xs.length (xs.map (D.num .i64)) ∧ Below w.heap.size w w'
theorem bulkV_snoc {α : Type} (f : α → Nat) (x : α) : ∀ l : List α, bulkL f (l ++ [x]) = bulkL f l + f x + 1
  | [] => by simp [bulkL]; omega
  | y :: r => by simp only [List.cons_append, bulkL, bulkV_snoc f x r]; omega
theorem bulkV_next {α : Type} (f : α → Nat) {l : List α} {j : Nat} (h : j < l.length) : bulkL f (l.take (j + 1)) = bulkL f (l.take j) + f l[j] + 1 ∧ bulkL f (l.take (j + 1)) ≤ bulkL f l := by
  refine ⟨by rw [take_snoc' l j h, bulkV_snoc], ?_⟩
  have := bulkL_take_le f l (j + 1) (by omega)
  omega
/-- a list of one's own that a call lets grow -/
def VGr (B : Nat) (xs : List Int) (v : Value) (w : World) (e : Ending) (w' : World) : Prop := ∃ A c, e = .returned (.slice A xs.length c) ∧ Gre w' B 3 1 (.slice A xs.length c) xs.length (xs.map (D.num .i64)) ∧ Gr w w' v (.slice A xs.length c)
theorem any_flipV (l : List Int) (n : Int) : (l.any fun x => n == x) = l.any fun x => x == n := by
  congr 1; funext x; rw [Bool.eq_iff_iff, beq_iff_eq, beq_iff_eq]; exact eq_comm
end Go.Proofs.YtgbcdfeflgnogaaGreat

/- Is a var in a type: the reference's walk, and that it is so where the list of vars has it. Conditions: none. -/
namespace Go.Proofs.YtgbcdfeflgnogaaGreat
open Go.RowKit
set_option linter.unusedVariables false
set_option linter.unusedSimpArgs false
set_option maxHeartbeats 1000000

theorem noneTo_any {α : Type} {p : α → Bool} {l : List α} (h : noneTo p l l.length) : l.any p = false := by
  rw [List.any_eq_false]
  intro x hx
  obtain ⟨i, hi, rfl⟩ := List.getElem_of_mem hx
  rw [h i hi hi]; simp
mutual
def GTy.has (n : Int) : GTy → Bool | .mk op m s kids => (op == 2 && m == n) || GTy.hasL n kids
def GTy.hasL (n : Int) : List GTy → Bool | [] => false | t :: r => t.has n || GTy.hasL n r
end
theorem GTy.has_eq (n : Int) (t : GTy) : t.has n = ((t.op == 2 && t.n == n) || GTy.hasL n t.kids) := by cases t; rw [GTy.has]; rfl
theorem GTy.hasL_any (n : Int) : ∀ l : List GTy, GTy.hasL n l = l.any (fun t => t.has n)
  | [] => by rw [GTy.hasL]; rfl
  | t :: r => by rw [GTy.hasL, GTy.hasL_any n r]; rfl
mutual
theorem GTy.mem_vs (n : Int) : ∀ (t : GTy) (xs : List Int), n ∈ t.vs xs ↔ n ∈ xs ∨ t.has n = true
  | .mk op m s kids, xs => by
    rw [GTy.vs, GTy.mem_vsL n kids, GTy.has]
    by_cases h : op = 2
    · rw [if_pos h, ins_mem, or_assoc]; simp only [h, beq_self_eq_true, Bool.true_and, Bool.or_eq_true, beq_iff_eq]; exact or_congr Iff.rfl (or_congr ⟨Eq.symm, Eq.symm⟩ Iff.rfl)
    · rw [if_neg h]; simp [h]
theorem GTy.mem_vsL (n : Int) : ∀ (l : List GTy) (xs : List Int), n ∈ GTy.vsL l xs ↔ n ∈ xs ∨ GTy.hasL n l = true
  | [], xs => by rw [GTy.vsL, GTy.hasL]; simp
  | t :: r, xs => by rw [GTy.vsL, GTy.mem_vsL n r, GTy.mem_vs n t, GTy.hasL]; simp [or_assoc]
end
theorem GTy.has_vs (n : Int) (t : GTy) : t.has n = true ↔ n ∈ t.vs [] := by rw [GTy.mem_vs]; simp

end Go.Proofs.YtgbcdfeflgnogaaGreat

/- Coverage by rows of patterns: what both compute, and rows in memory (no program in sight). Conditions: none. -/
namespace Go.Proofs.YtgbcdfeflgnogaaGreat
open Go.RowKit
set_option linter.unusedVariables false
set_option linter.unusedSimpArgs false

/-- anything -/
def anyN : GNode := .mk 17 0 ByteArray.empty ByteArray.empty []
def isAnyB (p : GNode) : Bool := p.op != 20 && p.op != 19
def alikeB (q p : GNode) : Bool := q.op == p.op && q.s.toList == p.s.toList && q.n == p.n && q.kids.length == p.kids.length
def into1 (p : GNode) : List GNode → Option (List GNode)
  | [] => none
  | q :: t => if isAnyB q = true then some (List.replicate p.kids.length anyN ++ t) else if alikeB q p = true then some (q.kids ++ t) else none
def intoR (p : GNode) (rows : List (List GNode)) : List (List GNode) := rows.filterMap (into1 p)
def rest1 : List GNode → Option (List GNode)
  | [] => none
  | q :: t => if isAnyB q = true then some t else none
def restR (rows : List (List GNode)) : List (List GNode) := rows.filterMap rest1
def hd (r : List GNode) : GNode := r.headD anyN
def headIs (s : ByteArray) (r : List GNode) : Bool := (hd r).op == 20 && (hd r).s.toList == s.toList
def dataStep (ds : List GData) (a : Int) (r : List GNode) : Int := if a < 0 ∧ (hd r).op = 20 then (conI (conOf (hd r).s ds 0)).1 else a
def dataAt (ds : List GData) (rows : List (List GNode)) : Int := rows.foldl (dataStep ds) (-1)
def conN (c : GCon) : GNode := .mk 20 0 c.name ByteArray.empty (List.replicate c.args.length anyN)
def allIn (rows : List (List GNode)) (cs : List GCon) : Bool := cs.all fun c => rows.any (headIs c.name)
def allR (ds : List GData) (rows : List (List GNode)) : Option (List GNode) :=
  if dataAt ds rows < 0 then none else match ds[(dataAt ds rows).toNat]? with
    | none => none
    | some d => if allIn rows d.cons = true then some (d.cons.map conN) else none
def useAll (g : Nat → List (List GNode) → List GNode → Bool × Nat) (rows : List (List GNode)) (t : List GNode) : List GNode → Nat → Bool × Nat
  | [], s => (false, s)
  | a :: r, s => if (g s (intoR a rows) (List.replicate a.kids.length anyN ++ t)).1 = true then g s (intoR a rows) (List.replicate a.kids.length anyN ++ t) else useAll g rows t r (g s (intoR a rows) (List.replicate a.kids.length anyN ++ t)).2
def useF (ds : List GData) : Nat → Nat → List (List GNode) → List GNode → Bool × Nat
  | 0, s, _, _ => (true, s + 1)
  | f + 1, s, rows, row => if 4000 < s + 1 then (true, s + 1) else match row with
    | [] => (rows.isEmpty, s + 1)
    | p :: t => if isAnyB p = true then (match allR ds rows with
        | none => useF ds f (s + 1) (restR rows) t
        | some all => useAll (useF ds f) rows t all (s + 1))
      else useF ds f (s + 1) (intoR p rows) (p.kids ++ t)
/-- is a row useful behind others -/
def usefulV (ds : List GData) (rows : List (List GNode)) (row : List GNode) : Bool := (rows.all fun r => r.length == row.length) && (useF ds 4001 0 rows row).1
def patOf (a : GNode) : GNode := hd a.kids
def missingV (ds : List GData) (alts : List GNode) : Bool := usefulV ds (alts.map fun a => [patOf a]) [anyN]
def idleV (ds : List GData) (alts : List GNode) : Int := idxI (fun i => !usefulV ds ((alts.take i).map fun a => [patOf a]) [patOf (alts.getD i anyN)]) (List.range alts.length)

theorem into1_cons (p q : GNode) (t : List GNode) : into1 p (q :: t) = if isAnyB q = true then some (List.replicate p.kids.length anyN ++ t) else if alikeB q p = true then some (q.kids ++ t) else none := rfl
theorem rest1_cons (q : GNode) (t : List GNode) : rest1 (q :: t) = if isAnyB q = true then some t else none := rfl
theorem dataAt_snoc (ds : List GData) {rows : List (List GNode)} {j : Nat} (h : j < rows.length) : dataAt ds (rows.take (j + 1)) = dataStep ds (dataAt ds (rows.take j)) rows[j] := by
  unfold dataAt; rw [take_snoc' rows j h, List.foldl_append]; rfl
theorem dataStep_stay {ds : List GData} {a : Int} (h : 0 ≤ a) (r : List GNode) : dataStep ds a r = a := by unfold dataStep; rw [if_neg (fun e => by omega)]
theorem foldl_stay {ds : List GData} {a : Int} (h : 0 ≤ a) : ∀ l : List (List GNode), l.foldl (dataStep ds) a = a
  | [] => rfl
  | r :: t => by rw [List.foldl_cons, dataStep_stay h, foldl_stay h t]
theorem dataAt_stay {ds : List GData} {rows : List (List GNode)} {j : Nat} (h : 0 ≤ dataAt ds (rows.take j)) : dataAt ds rows = dataAt ds (rows.take j) := by
  conv => lhs; rw [← List.take_append_drop j rows]
  unfold dataAt at h ⊢
  rw [List.foldl_append, foldl_stay h]

/-- sizes: no pattern's part is bigger than M -/
def nodeB (M : Nat) (x : GNode) : Prop := x.bulk ≤ M
theorem nodeB.kids {M : Nat} {x : GNode} (h : nodeB M x) : ∀ k ∈ x.kids, nodeB M k := fun k hk => by
  obtain ⟨i, hi, rfl⟩ := List.getElem_of_mem hk
  have h1 := (bulkV_next GNode.bulk hi).2
  have h2 := (bulkV_next GNode.bulk hi).1
  have h3 := x.bulk_eq
  unfold nodeB at *
  omega
theorem nodeB.len {M : Nat} {x : GNode} (h : nodeB M x) : x.kids.length ≤ M := by
  have h1 := bulkL_len GNode.bulk x.kids
  have h3 := x.bulk_eq
  unfold nodeB at h
  omega
theorem anyN_bulk : anyN.bulk = 0 := by rw [GNode.bulk_eq]; rfl
theorem rep_bulk : ∀ n : Nat, bulkL GNode.bulk (List.replicate n anyN) = n
  | 0 => rfl
  | n + 1 => by rw [List.replicate_succ]; simp only [bulkL, anyN_bulk, rep_bulk n]; omega
theorem anyN_B (M : Nat) : nodeB M anyN := by unfold nodeB; rw [anyN_bulk]; omega
/-- rows of one length, their parts bounded -/
def RowsB (M n : Nat) (rows : List (List GNode)) : Prop := ∀ r ∈ rows, r.length = n ∧ ∀ x ∈ r, nodeB M x
theorem into1_len {M n : Nat} {p q : GNode} {t r : List GNode} (h : into1 p (q :: t) = some r) (hl : (q :: t).length = n + 1) : r.length = p.kids.length + n := by
  rw [into1_cons] at h
  simp only [List.length_cons, Nat.add_right_cancel_iff] at hl
  split at h
  · simp only [Option.some.injEq] at h; subst h; simp [hl]
  · split at h
    · rename_i e
      unfold alikeB at e
      simp only [Bool.and_eq_true, beq_iff_eq] at e
      simp only [Option.some.injEq] at h; subst h; simp [hl, e.2]
    · cases h
theorem RowsB.into {M n : Nat} {rows : List (List GNode)} (h : RowsB M (n + 1) rows) (p : GNode) : RowsB M (p.kids.length + n) (intoR p rows) := fun r hr => by
  unfold intoR at hr
  obtain ⟨r0, h0, e⟩ := List.mem_filterMap.1 hr
  obtain ⟨h1, h2⟩ := h r0 h0
  obtain ⟨q, t, rfl⟩ := List.exists_cons_of_length_pos (l := r0) (by omega)
  refine ⟨into1_len (M := M) e h1, fun x hx => ?_⟩
  rw [into1_cons] at e
  split at e
  · simp only [Option.some.injEq] at e; subst e
    rcases List.mem_append.1 hx with hx | hx
    · rw [(List.mem_replicate.1 hx).2]; exact anyN_B M
    · exact h2 x (by simp [hx])
  · split at e
    · simp only [Option.some.injEq] at e; subst e
      rcases List.mem_append.1 hx with hx | hx
      · exact (h2 q (by simp)).kids x hx
      · exact h2 x (by simp [hx])
    · cases e
theorem RowsB.rest {M n : Nat} {rows : List (List GNode)} (h : RowsB M (n + 1) rows) : RowsB M n (restR rows) := fun r hr => by
  unfold restR at hr
  obtain ⟨r0, h0, e⟩ := List.mem_filterMap.1 hr
  obtain ⟨h1, h2⟩ := h r0 h0
  obtain ⟨q, t, rfl⟩ := List.exists_cons_of_length_pos (l := r0) (by omega)
  rw [rest1_cons] at e
  split at e
  · simp only [Option.some.injEq] at e; subst e
    exact ⟨by simpa using h1, fun x hx => h2 x (by simp [hx])⟩
  · cases e

/-- a row as data -/
def rowD (r : List GNode) : D := .sl 5 (r.map GNode.toD)
theorem rowD_elem {w : World} {S : Nat → Prop} {A : Option Addr} {c : Nat} {rows : List (List GNode)} (h : Sl w S 1 A c (rows.map rowD)) (i : Nat) (hi : i < rows.length) :
    ∃ b off A1 c1, A = some ⟨b, off, none⟩ ∧ S b ∧ w.cell? ⟨b, off + i, none⟩ = some (.slice A1 rows[i].length c1) ∧ Sl w S 5 A1 c1 (rows[i].map GNode.toD) := by
  obtain ⟨b, off, cs, e, hb, hl, hc, hr⟩ := Sl.get h i (by simpa using hi)
  rw [List.getElem_map] at hr
  obtain ⟨A1, c1, rfl, h1⟩ := D.rd_sl.1 hr
  have := hc 0 _ rfl
  simp only [Nat.mul_one, Nat.add_zero, List.length_map] at this
  exact ⟨b, off, A1, c1, e, hb, this, h1⟩
/-- the first of a row, and the rest -/
theorem row_head {w : World} {S : Nat → Prop} {A : Option Addr} {c : Nat} {q : GNode} {t : List GNode} (h : Sl w S 5 A c ((q :: t).map GNode.toD)) :
    ∃ b off A1 c1, A = some ⟨b, off, none⟩ ∧ S b ∧ t.length + 1 ≤ c ∧ c ≤ maxLen ∧ w.cell? ⟨b, off, none⟩ = some (.int .i64 q.op) ∧ w.cell? ⟨b, off + 1, none⟩ = some (.int .i64 q.n) ∧ w.cell? ⟨b, off + 2, none⟩ = some (.string q.s) ∧ w.cell? ⟨b, off + 3, none⟩ = some (.string q.t) ∧ w.cell? ⟨b, off + 4, none⟩ = some (.slice A1 q.kids.length c1) ∧ GNode.At w S A1 c1 q ∧
      Sl w S 5 (some ⟨b, off + 5, none⟩) (c - 1) (t.map GNode.toD) ∧ (c = 1 → Sl w S 5 (some ⟨b, off, none⟩) 0 (t.map GNode.toD)) := by
  obtain ⟨b, off, A1, c1, rfl, hS, h0, h1, h2, h3, h4, hat⟩ := GNode.elem h 0 (by simp)
  have hd := Sl.drop h 1 (by simp)
  have hlc := h.1
  simp only [List.map_cons, List.length_cons, List.length_map] at hlc
  simp only [Nat.zero_mul, Nat.add_zero, List.getElem_cons_zero, Nat.one_mul, List.map_cons, List.drop_succ_cons, List.drop_zero] at h0 h1 h2 h3 h4 hat hd
  exact ⟨b, off, A1, c1, rfl, hS, hlc, h.2.1, h0, h1, h2, h3, h4, hat, hd, fun e => by
    have : t = [] := List.eq_nil_of_length_eq_zero (by omega)
    subst this; exact Sl.nil (Nat.zero_le _)⟩
/-- one datum in a row of its own -/
theorem slOne {w : World} {S : Nat → Prop} {g size : Nat} {T : TypeId} {cs : List Value} {d : D} (hr : Row w g T cs.toArray) (hd : d.rd w S cs) (hl : cs.length = size) (hg : S g) : Sl w S size (some ⟨g, 0, none⟩) 1 [d] := by
  refine ⟨by simp, by unfold maxLen; omega, .inr ⟨g, 0, rfl, hg, ?_⟩⟩
  refine rdC_row [d] cs 0 (fun j v hj => ?_) ?_
  · rw [Nat.zero_add, hr.cell]; simpa using hj
  · simp only [rdC]; exact ⟨cs, [], by simp, hl, hd, rfl⟩
theorem slOneRow {w : World} {S : Nat → Prop} {g : Nat} {T : TypeId} {A : Option Addr} {c : Nat} {r : List GNode} (hr : Row w g T #[.slice A r.length c]) (hs : Sl w S 5 A c (r.map GNode.toD)) (hg : S g) : Sl w S 1 (some ⟨g, 0, none⟩) 1 ([r].map rowD) :=
  slOne (cs := [.slice A r.length c]) hr (by unfold rowD; rw [D.rd_sl]; exact ⟨A, c, by simp, hs⟩) rfl hg
theorem anyN_rd (w : World) (S : Nat → Prop) (c : Nat) (hc : c ≤ maxLen) (A : Option Addr) : anyN.toD.rd w S [.int .i64 17, .int .i64 0, .string ByteArray.empty, .string ByteArray.empty, .slice A 0 c] :=
  GNode.rd_mk (t := anyN) ⟨by decide, by decide, by decide, by decide, Sl.nil hc⟩

/-- where data may lie: what is there, but not in what X bars -/
def Lx (X : Nat → Prop) (w : World) : Nat → Prop := fun b => b < w.heap.size ∧ X b
theorem Sl.lx {X : Nat → Prop} {w w' : World} {size : Nat} {A : Option Addr} {c : Nat} {xs : List D} (h : Sl w (Lx X w) size A c xs) (hb : Below w.heap.size w w') : Sl w' (Lx X w') size A c xs := h.keep fun b hb' => ⟨⟨Nat.lt_of_lt_of_le hb'.1 hb.size, hb'.2⟩, hb.block b hb'.1⟩
theorem Sl.lt {X : Nat → Prop} {w : World} {size : Nat} {A : Option Addr} {c : Nat} {xs : List D} (h : Sl w (Lx X w) size A c xs) : Sl w (Lt w.heap.size) size A c xs := h.keep fun b hb => ⟨hb.1, rfl⟩
theorem GNode.At.lx {X : Nat → Prop} {w w' : World} {A : Option Addr} {c : Nat} {t : GNode} (h : GNode.At w (Lx X w) A c t) (hb : Below w.heap.size w w') : GNode.At w' (Lx X w') A c t := h.keep fun b hb' => ⟨⟨Nat.lt_of_lt_of_le hb'.1 hb.size, hb'.2⟩, hb.block b hb'.1⟩
/-- a list of patterns that a call hands back; rows of them -/
def LTo (X : Nat → Prop) (xs : List GNode) (w : World) (e : Ending) (w' : World) : Prop := ∃ A c, e = .returned (.slice A xs.length c) ∧ Sl w' (Lx X w') 5 A c (xs.map GNode.toD) ∧ Below w.heap.size w w'
def RTo (X : Nat → Prop) (rows : List (List GNode)) (w : World) (e : Ending) (w' : World) : Prop := ∃ A c, e = .returned (.slice A rows.length c) ∧ Sl w' (Lx X w') 1 A c (rows.map rowD) ∧ Below w.heap.size w w'
end Go.Proofs.YtgbcdfeflgnogaaGreat
